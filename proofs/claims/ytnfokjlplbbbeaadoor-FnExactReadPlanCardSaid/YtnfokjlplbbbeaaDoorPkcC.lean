/-
  Texts of this proof, one behind the other: LayStr, TextM, Str, Txt1, Txt2, OrdM, Plan, PlanT, Txt3, Txt5.
-/
import Derived.Shelf.Strconv.Atoi
import Derived.Shelf.Strconv.Itoa0
import Derived.Shelf.Strconv.Itoa1
import Derived.Shelf.LaysM
import Derived.Shelf.Strconv.Itoa2
import Derived.Shelf.Strconv.Itoa3
import Derived.Shelf.Strconv.AtoiErrFast
import Derived.Shelf.Strconv.ParseIntEmpty
import Derived.Shelf.Strconv.AtoiFail
import Derived.Shelf.Strconv.Clone
import Derived.Shelf.Strconv.SyntaxError
import Derived.Shelf.LaysC
import Derived.Shelf.Strconv.ToError
import Derived.Shelf.Strconv.Lower
import Derived.Shelf.Strconv.ParseUint10
import Derived.Shelf.Strconv.ParseUint10Empty
import Derived.Shelf.Strconv.ParseUint10Any
import Derived.Shelf.Strconv.ParseInt10
import Derived.Shelf.Strconv.AtoiLong
import Derived.Shelf.Strconv.AtoiInnerAll
import Derived.Shelf.Strconv.RangeError
import Derived.Shelf.Strconv.ToErrorRange
import Derived.Shelf.Strconv.AtoiAll
import Derived.Shelf.Strconv.ErrVarAll
import Derived.Test.YtnfokjlplbbbeaaDoorProg
import Derived.Lib.AtoiAllCases
import Derived.Lib.AtoiTie
import Derived.Lib.ItoaMem
import Derived.Test.YtnfokjlplbbbeaaDoorPkcB
import Derived.Laws.BytesString
import Derived.Lib.Strings
import Derived.Test.YtnfokjlplbbbeaaDoorPkcA

/-
  The contracts of the library's numerals at this program: written by the kit's tools lay-shelf and lay-plain.
-/
namespace Go.Proofs
open Go.Shelf
def Tryd.lays244_ren : Go.Shelf.Ren := ⟨fun | 244 => 59 | 247 => 62 | 287 => 71 | 321 => 79 | 322 => 80 | n => n, fun | 9 => 9 | 3 => 3 | 75 => 82 | 4 => 4 | 5 => 5 | 167 => 87 | 37 => 79 | 0 => 0 | 85 => 88 | 2 => 2 | 53 => 94 | 175 => 99 | 46 => 101 | 21 => 21 | 80 => 120 | n => n, fun | n => n⟩
def Tryd.lays172_ren : Go.Shelf.Ren := ⟨fun | 172 => 57 | 244 => 59 | 245 => 60 | 247 => 62 | 279 => 63 | 280 => 64 | 281 => 65 | 282 => 66 | 287 => 71 | 316 => 72 | 171 => 56 | 205 => 73 | 321 => 79 | 322 => 80 | 243 => 58 | 246 => 61 | 283 => 67 | 284 => 68 | 285 => 69 | 286 => 70 | 129 => 75 | 317 => 74 | 318 => 76 | 319 => 77 | 320 => 78 | 337 => 81 | 338 => 82 | n => n, fun | 9 => 9 | 3 => 3 | 75 => 82 | 76 => 83 | 4 => 4 | 5 => 5 | 167 => 87 | 37 => 79 | 0 => 0 | 85 => 88 | 2 => 2 | 168 => 90 | 53 => 94 | 175 => 99 | 46 => 101 | 210 => 104 | 127 => 113 | 145 => 116 | 143 => 114 | 21 => 21 | 171 => 93 | 173 => 97 | 212 => 108 | 51 => 109 | 20 => 20 | 213 => 110 | 232 => 118 | 233 => 119 | 80 => 120 | n => n, fun | 15 => 0 | 16 => 1 | 17 => 2 | 18 => 3 | 19 => 4 | n => n⟩
def Tryd.lays129_ren : Go.Shelf.Ren := ⟨fun | 129 => 75 | n => n, fun | 53 => 94 | 3 => 3 | 4 => 4 | 46 => 101 | 5 => 5 | 9 => 9 | n => n, fun | n => n⟩
def Tryd.lays317_ren : Go.Shelf.Ren := ⟨fun | 317 => 74 | n => n, fun | 3 => 3 | 46 => 101 | n => n, fun | n => n⟩
def Tryd.lays318_ren : Go.Shelf.Ren := ⟨fun | 318 => 76 | n => n, fun | 3 => 3 | 4 => 4 | n => n, fun | n => n⟩
def Tryd.lays283_ren : Go.Shelf.Ren := ⟨fun | 283 => 67 | n => n, fun | 3 => 3 | 9 => 9 | 4 => 4 | n => n, fun | n => n⟩
def Tryd.laysM284_ren : Go.Shelf.Ren := ⟨fun | 284 => 68 | 129 => 75 | 317 => 74 | 318 => 76 | n => n, fun | 53 => 94 | 3 => 3 | 212 => 108 | 0 => 0 | 4 => 4 | 46 => 101 | 5 => 5 | 9 => 9 | n => n, fun | 17 => 2 | n => n⟩
def Tryd.lays285_ren : Go.Shelf.Ren := ⟨fun | 285 => 69 | n => n, fun | 37 => 79 | 53 => 94 | 3 => 3 | 4 => 4 | 51 => 109 | 9 => 9 | 5 => 5 | 0 => 0 | n => n, fun | n => n⟩
def Tryd.laysM246_ren : Go.Shelf.Ren := ⟨fun | 246 => 61 | 283 => 67 | 284 => 68 | 285 => 69 | 286 => 70 | 129 => 75 | 317 => 74 | 318 => 76 | 319 => 77 | 320 => 78 | 337 => 81 | 338 => 82 | n => n, fun | 2 => 2 | 3 => 3 | 9 => 9 | 4 => 4 | 171 => 93 | 0 => 0 | 53 => 94 | 37 => 79 | 5 => 5 | 173 => 97 | 212 => 108 | 51 => 109 | 20 => 20 | 213 => 110 | 46 => 101 | 232 => 118 | 233 => 119 | n => n, fun | 17 => 2 | 18 => 3 | 19 => 4 | n => n⟩
def Tryd.lays246_ren : Go.Shelf.Ren := ⟨fun | 246 => 61 | 283 => 67 | 284 => 68 | 285 => 69 | 286 => 70 | 129 => 75 | 317 => 74 | 318 => 76 | 319 => 77 | 320 => 78 | 337 => 81 | 338 => 82 | n => n, fun | 2 => 2 | 3 => 3 | 9 => 9 | 4 => 4 | 171 => 93 | 0 => 0 | 53 => 94 | 37 => 79 | 5 => 5 | 173 => 97 | 212 => 108 | 51 => 109 | 20 => 20 | 213 => 110 | 46 => 101 | 232 => 118 | 233 => 119 | n => n, fun | 17 => 2 | 18 => 3 | 19 => 4 | n => n⟩
def Tryd.laysM243_ren : Go.Shelf.Ren := ⟨fun | 243 => 58 | 246 => 61 | 283 => 67 | 284 => 68 | 285 => 69 | 286 => 70 | 129 => 75 | 317 => 74 | 318 => 76 | 319 => 77 | 320 => 78 | 337 => 81 | 338 => 82 | n => n, fun | 3 => 3 | 9 => 9 | 2 => 2 | 4 => 4 | 171 => 93 | 0 => 0 | 53 => 94 | 37 => 79 | 5 => 5 | 173 => 97 | 212 => 108 | 51 => 109 | 20 => 20 | 213 => 110 | 46 => 101 | 232 => 118 | 233 => 119 | n => n, fun | 17 => 2 | 18 => 3 | 19 => 4 | n => n⟩
def Tryd.lays243_ren : Go.Shelf.Ren := ⟨fun | 243 => 58 | 246 => 61 | 283 => 67 | 284 => 68 | 285 => 69 | 286 => 70 | 129 => 75 | 317 => 74 | 318 => 76 | 319 => 77 | 320 => 78 | 337 => 81 | 338 => 82 | n => n, fun | 3 => 3 | 9 => 9 | 2 => 2 | 4 => 4 | 171 => 93 | 0 => 0 | 53 => 94 | 37 => 79 | 5 => 5 | 173 => 97 | 212 => 108 | 51 => 109 | 20 => 20 | 213 => 110 | 46 => 101 | 232 => 118 | 233 => 119 | n => n, fun | 17 => 2 | 18 => 3 | 19 => 4 | n => n⟩
def Tryd.laysM171_ren : Go.Shelf.Ren := ⟨fun | 171 => 56 | 243 => 58 | 246 => 61 | 283 => 67 | 284 => 68 | 285 => 69 | 286 => 70 | 129 => 75 | 317 => 74 | 318 => 76 | 319 => 77 | 320 => 78 | 337 => 81 | 338 => 82 | n => n, fun | 3 => 3 | 9 => 9 | 2 => 2 | 4 => 4 | 171 => 93 | 0 => 0 | 53 => 94 | 37 => 79 | 5 => 5 | 173 => 97 | 212 => 108 | 51 => 109 | 20 => 20 | 213 => 110 | 46 => 101 | 232 => 118 | 233 => 119 | n => n, fun | 17 => 2 | 18 => 3 | 19 => 4 | n => n⟩
theorem Tryd.laysM171 : Go.Proofs.LaysM.n171 Tryd.prog Tryd.laysM171_ren := {
  mixed := by kernel_rfl
  f129 := Tryd.func75.trans (congrArg some (by kernel_rfl))
  f171 := Tryd.func56.trans (congrArg some (by kernel_rfl))
  f243 := Tryd.func58.trans (congrArg some (by kernel_rfl))
  f246 := Tryd.func61.trans (congrArg some (by kernel_rfl))
  f283 := Tryd.func67.trans (congrArg some (by kernel_rfl))
  f284 := Tryd.func68.trans (congrArg some (by kernel_rfl))
  f285 := Tryd.func69.trans (congrArg some (by kernel_rfl))
  f286 := Tryd.func70.trans (congrArg some (by kernel_rfl))
  f317 := Tryd.func74.trans (congrArg some (by kernel_rfl))
  f318 := Tryd.func76.trans (congrArg some (by kernel_rfl))
  f319 := Tryd.func77.trans (congrArg some (by kernel_rfl))
  f320 := Tryd.func78.trans (congrArg some (by kernel_rfl))
  f337 := Tryd.func81.trans (congrArg some (by kernel_rfl))
  f338 := Tryd.func82.trans (congrArg some (by kernel_rfl))
  t0 := Tryd.underlying0
  a0 := Tryd.isAgg0
  z0 := Tryd.sizeOf0
  v0 := Tryd.zeroValue0
  t2 := Tryd.underlying2
  a2 := Tryd.isAgg2
  z2 := Tryd.sizeOf2
  v2 := Tryd.zeroValue2
  t3 := Tryd.underlying3
  a3 := Tryd.isAgg3
  z3 := Tryd.sizeOf3
  v3 := Tryd.zeroValue3
  t4 := Tryd.underlying4
  a4 := Tryd.isAgg4
  z4 := Tryd.sizeOf4
  v4 := Tryd.zeroValue4
  t5 := Tryd.underlying5
  a5 := Tryd.isAgg5
  z5 := Tryd.sizeOf5
  v5 := Tryd.zeroValue5
  t9 := Tryd.underlying9
  a9 := Tryd.isAgg9
  z9 := Tryd.sizeOf9
  v9 := Tryd.zeroValue9
  t20 := Tryd.underlying20
  a20 := Tryd.isAgg20
  z20 := Tryd.sizeOf20
  v20 := Tryd.zeroValue20
  t37 := Tryd.underlying79
  a37 := Tryd.isAgg79
  z37 := Tryd.sizeOf79
  v37 := Tryd.zeroValue79
  t46 := Tryd.underlying101
  a46 := Tryd.isAgg101
  z46 := Tryd.sizeOf101
  v46 := Tryd.zeroValue101
  t51 := Tryd.underlying109
  a51 := Tryd.isAgg109
  z51 := Tryd.sizeOf109
  v51 := Tryd.zeroValue109
  t53 := Tryd.underlying94
  a53 := Tryd.isAgg94
  z53 := Tryd.sizeOf94
  v53 := Tryd.zeroValue94
  t171 := Tryd.underlying93
  a171 := Tryd.isAgg93
  z171 := Tryd.sizeOf93
  v171 := Tryd.zeroValue93
  t173 := Tryd.underlying97
  a173 := Tryd.isAgg97
  z173 := Tryd.sizeOf97
  v173 := Tryd.zeroValue97
  t212 := Tryd.underlying108
  a212 := Tryd.isAgg108
  z212 := Tryd.sizeOf108
  v212 := Tryd.zeroValue108
  t213 := Tryd.underlying110
  a213 := Tryd.isAgg110
  z213 := Tryd.sizeOf110
  t232 := Tryd.underlying118
  a232 := Tryd.isAgg118
  z232 := Tryd.sizeOf118
  v232 := Tryd.zeroValue118
  t233 := Tryd.underlying119
  a233 := Tryd.isAgg119
  z233 := Tryd.sizeOf119
  v233 := Tryd.zeroValue119
  g17 := by kernel_rfl
  g18 := by kernel_rfl
  g19 := by kernel_rfl
  i0 := by kernel_rfl
  i2 := by kernel_rfl
  i3 := by kernel_rfl
  i4 := by kernel_rfl
  i5 := by kernel_rfl
  i9 := by kernel_rfl
  i20 := by kernel_rfl
  i37 := by kernel_rfl
  i46 := by kernel_rfl
  i51 := by kernel_rfl
  i53 := by kernel_rfl
  i171 := by kernel_rfl
  i173 := by kernel_rfl
  i212 := by kernel_rfl
  i232 := by kernel_rfl
  i233 := by kernel_rfl
  m17 := by kernel_rfl
  m18 := by kernel_rfl
  m19 := by kernel_rfl }
open Go.RowKit Go.Sort Go.Lib in
/-- strconv.Itoa: "Itoa is equivalent to FormatInt(int64(i), 10).": i's DECIMAL NUMERAL ('Lib.itoa': a '-' where i is negative, then the digits), FOR EVERY int. The world behind the call: the world before it, new blocks behind the heap (the library's 'var a [24]byte'), draws. (LAID: no walk: one application.) -/
theorem Tryd.strconv_Itoa (n : Int) (h0 : -9223372036854775808 ≤ n) (h1 : n ≤ 9223372036854775807) (w : World) (htab : Lib.TabIs Tryd.prog w "internal/strconv.uint64pow10" .u64 Lib.pow10Tab) :
    Calls Tryd.prog 56 #[.int .i64 n] w fun e w' => e = .returned (.string ⟨(Lib.itoa n).toArray⟩) ∧ ∃ k os, w' = grow (w.drewN k) os := Any.strconv_Itoa Tryd.laysM171 n h0 h1 w htab
def Tryd.lays171_ren : Go.Shelf.Ren := ⟨fun | 171 => 56 | 243 => 58 | 246 => 61 | 283 => 67 | 284 => 68 | 285 => 69 | 286 => 70 | 129 => 75 | 317 => 74 | 318 => 76 | 319 => 77 | 320 => 78 | 337 => 81 | 338 => 82 | n => n, fun | 3 => 3 | 9 => 9 | 2 => 2 | 4 => 4 | 171 => 93 | 0 => 0 | 53 => 94 | 37 => 79 | 5 => 5 | 173 => 97 | 212 => 108 | 51 => 109 | 20 => 20 | 213 => 110 | 46 => 101 | 232 => 118 | 233 => 119 | n => n, fun | 17 => 2 | 18 => 3 | 19 => 4 | n => n⟩
def Tryd.lays247_ren : Go.Shelf.Ren := ⟨fun | 247 => 62 | 287 => 71 | 321 => 79 | 322 => 80 | n => n, fun | 9 => 9 | 3 => 3 | 2 => 2 | 75 => 82 | 4 => 4 | 167 => 87 | 5 => 5 | 53 => 94 | 175 => 99 | 46 => 101 | 37 => 79 | 0 => 0 | 21 => 21 | 80 => 120 | n => n, fun | n => n⟩
def Tryd.laysM316_ren : Go.Shelf.Ren := ⟨fun | 316 => 72 | n => n, fun | 9 => 9 | 3 => 3 | 4 => 4 | 37 => 79 | 0 => 0 | 127 => 113 | 5 => 5 | n => n, fun | n => n⟩
def Tryd.laysM279_ren : Go.Shelf.Ren := ⟨fun | 279 => 63 | 316 => 72 | n => n, fun | 9 => 9 | 168 => 90 | 75 => 82 | 210 => 104 | 3 => 3 | 4 => 4 | 37 => 79 | 0 => 0 | 127 => 113 | 80 => 120 | 5 => 5 | n => n, fun | 15 => 0 | n => n⟩
def Tryd.laysC245_ren : Go.Shelf.Ren := ⟨fun | 245 => 60 | 279 => 63 | 280 => 64 | 281 => 65 | 282 => 66 | 316 => 72 | 171 => 56 | 205 => 73 | 243 => 58 | 246 => 61 | 283 => 67 | 284 => 68 | 285 => 69 | 286 => 70 | 129 => 75 | 317 => 74 | 318 => 76 | 319 => 77 | 320 => 78 | 337 => 81 | 338 => 82 | n => n, fun | 9 => 9 | 3 => 3 | 75 => 82 | 167 => 87 | 4 => 4 | 168 => 90 | 210 => 104 | 37 => 79 | 0 => 0 | 127 => 113 | 145 => 116 | 143 => 114 | 2 => 2 | 171 => 93 | 53 => 94 | 5 => 5 | 173 => 97 | 212 => 108 | 51 => 109 | 20 => 20 | 213 => 110 | 46 => 101 | 232 => 118 | 233 => 119 | 80 => 120 | n => n, fun | 15 => 0 | 16 => 1 | 17 => 2 | 18 => 3 | 19 => 4 | n => n⟩
def Tryd.lays321_ren : Go.Shelf.Ren := ⟨fun | 321 => 79 | n => n, fun | 5 => 5 | n => n, fun | n => n⟩
def Tryd.lays287_ren : Go.Shelf.Ren := ⟨fun | 287 => 71 | 321 => 79 | 322 => 80 | n => n, fun | 9 => 9 | 3 => 3 | 53 => 94 | 75 => 82 | 4 => 4 | 167 => 87 | 5 => 5 | 46 => 101 | 37 => 79 | 0 => 0 | 21 => 21 | 80 => 120 | n => n, fun | n => n⟩
def Tryd.laysC247_ren : Go.Shelf.Ren := ⟨fun | 247 => 62 | 287 => 71 | 321 => 79 | 322 => 80 | n => n, fun | 9 => 9 | 3 => 3 | 2 => 2 | 75 => 82 | 4 => 4 | 167 => 87 | 5 => 5 | 53 => 94 | 175 => 99 | 46 => 101 | 37 => 79 | 0 => 0 | 21 => 21 | 80 => 120 | n => n, fun | n => n⟩
def Tryd.laysC244_ren : Go.Shelf.Ren := ⟨fun | 244 => 59 | 247 => 62 | 287 => 71 | 321 => 79 | 322 => 80 | n => n, fun | 9 => 9 | 3 => 3 | 75 => 82 | 4 => 4 | 5 => 5 | 167 => 87 | 37 => 79 | 0 => 0 | 85 => 88 | 2 => 2 | 53 => 94 | 175 => 99 | 46 => 101 | 21 => 21 | 80 => 120 | n => n, fun | n => n⟩
def Tryd.laysM280_ren : Go.Shelf.Ren := ⟨fun | 280 => 64 | 316 => 72 | n => n, fun | 9 => 9 | 168 => 90 | 75 => 82 | 210 => 104 | 3 => 3 | 4 => 4 | 37 => 79 | 0 => 0 | 127 => 113 | 80 => 120 | 5 => 5 | n => n, fun | 16 => 1 | n => n⟩
def Tryd.laysC172_ren : Go.Shelf.Ren := ⟨fun | 172 => 57 | 244 => 59 | 245 => 60 | 247 => 62 | 279 => 63 | 280 => 64 | 281 => 65 | 282 => 66 | 287 => 71 | 316 => 72 | 171 => 56 | 205 => 73 | 321 => 79 | 322 => 80 | 243 => 58 | 246 => 61 | 283 => 67 | 284 => 68 | 285 => 69 | 286 => 70 | 129 => 75 | 317 => 74 | 318 => 76 | 319 => 77 | 320 => 78 | 337 => 81 | 338 => 82 | n => n, fun | 9 => 9 | 3 => 3 | 75 => 82 | 76 => 83 | 4 => 4 | 5 => 5 | 167 => 87 | 37 => 79 | 0 => 0 | 85 => 88 | 2 => 2 | 168 => 90 | 53 => 94 | 175 => 99 | 46 => 101 | 210 => 104 | 127 => 113 | 145 => 116 | 143 => 114 | 21 => 21 | 171 => 93 | 173 => 97 | 212 => 108 | 51 => 109 | 20 => 20 | 213 => 110 | 232 => 118 | 233 => 119 | 80 => 120 | n => n, fun | 15 => 0 | 16 => 1 | 17 => 2 | 18 => 3 | 19 => 4 | n => n⟩
theorem Tryd.laysC172 : Go.Proofs.LaysC.n172 Tryd.prog Tryd.laysC172_ren := {
  mixed := by kernel_rfl
  f129 := Tryd.func75.trans (congrArg some (by kernel_rfl))
  f171 := Tryd.func56.trans (congrArg some (by kernel_rfl))
  f172 := Tryd.func57.trans (congrArg some (by kernel_rfl))
  f205 := Tryd.func73.trans (congrArg some (by kernel_rfl))
  f243 := Tryd.func58.trans (congrArg some (by kernel_rfl))
  f244 := Tryd.func59.trans (congrArg some (by kernel_rfl))
  f245 := Tryd.func60.trans (congrArg some (by kernel_rfl))
  f246 := Tryd.func61.trans (congrArg some (by kernel_rfl))
  f247 := Tryd.func62.trans (congrArg some (by kernel_rfl))
  f279 := Tryd.func63.trans (congrArg some (by kernel_rfl))
  f280 := Tryd.func64.trans (congrArg some (by kernel_rfl))
  f281 := Tryd.func65.trans (congrArg some (by kernel_rfl))
  f282 := Tryd.func66.trans (congrArg some (by kernel_rfl))
  f283 := Tryd.func67.trans (congrArg some (by kernel_rfl))
  f284 := Tryd.func68.trans (congrArg some (by kernel_rfl))
  f285 := Tryd.func69.trans (congrArg some (by kernel_rfl))
  f286 := Tryd.func70.trans (congrArg some (by kernel_rfl))
  f287 := Tryd.func71.trans (congrArg some (by kernel_rfl))
  f316 := Tryd.func72.trans (congrArg some (by kernel_rfl))
  f317 := Tryd.func74.trans (congrArg some (by kernel_rfl))
  f318 := Tryd.func76.trans (congrArg some (by kernel_rfl))
  f319 := Tryd.func77.trans (congrArg some (by kernel_rfl))
  f320 := Tryd.func78.trans (congrArg some (by kernel_rfl))
  f321 := Tryd.func79.trans (congrArg some (by kernel_rfl))
  f322 := Tryd.func80.trans (congrArg some (by kernel_rfl))
  f337 := Tryd.func81.trans (congrArg some (by kernel_rfl))
  f338 := Tryd.func82.trans (congrArg some (by kernel_rfl))
  t0 := Tryd.underlying0
  a0 := Tryd.isAgg0
  z0 := Tryd.sizeOf0
  v0 := Tryd.zeroValue0
  t2 := Tryd.underlying2
  a2 := Tryd.isAgg2
  z2 := Tryd.sizeOf2
  v2 := Tryd.zeroValue2
  t3 := Tryd.underlying3
  a3 := Tryd.isAgg3
  z3 := Tryd.sizeOf3
  v3 := Tryd.zeroValue3
  t4 := Tryd.underlying4
  a4 := Tryd.isAgg4
  z4 := Tryd.sizeOf4
  v4 := Tryd.zeroValue4
  t5 := Tryd.underlying5
  a5 := Tryd.isAgg5
  z5 := Tryd.sizeOf5
  v5 := Tryd.zeroValue5
  t9 := Tryd.underlying9
  a9 := Tryd.isAgg9
  z9 := Tryd.sizeOf9
  v9 := Tryd.zeroValue9
  t20 := Tryd.underlying20
  a20 := Tryd.isAgg20
  z20 := Tryd.sizeOf20
  v20 := Tryd.zeroValue20
  t21 := Tryd.underlying21
  a21 := Tryd.isAgg21
  z21 := Tryd.sizeOf21
  v21 := Tryd.zeroValue21
  t37 := Tryd.underlying79
  a37 := Tryd.isAgg79
  z37 := Tryd.sizeOf79
  v37 := Tryd.zeroValue79
  t46 := Tryd.underlying101
  a46 := Tryd.isAgg101
  z46 := Tryd.sizeOf101
  v46 := Tryd.zeroValue101
  t51 := Tryd.underlying109
  a51 := Tryd.isAgg109
  z51 := Tryd.sizeOf109
  v51 := Tryd.zeroValue109
  t53 := Tryd.underlying94
  a53 := Tryd.isAgg94
  z53 := Tryd.sizeOf94
  v53 := Tryd.zeroValue94
  t75 := Tryd.underlying82
  a75 := Tryd.isAgg82
  z75 := Tryd.sizeOf82
  v75 := Tryd.zeroValue82
  t76 := Tryd.underlying83
  a76 := Tryd.isAgg83
  z76 := Tryd.sizeOf83
  v76 := Tryd.zeroValue83
  t85 := Tryd.underlying88
  a85 := Tryd.isAgg88
  z85 := Tryd.sizeOf88
  v85 := Tryd.zeroValue88
  t127 := Tryd.underlying113
  a127 := Tryd.isAgg113
  z127 := Tryd.sizeOf113
  v127 := Tryd.zeroValue113
  t143 := Tryd.underlying114
  a143 := Tryd.isAgg114
  z143 := Tryd.sizeOf114
  v143 := Tryd.zeroValue114
  t145 := Tryd.underlying116
  a145 := Tryd.isAgg116
  z145 := Tryd.sizeOf116
  v145 := Tryd.zeroValue116
  t167 := Tryd.underlying87
  a167 := Tryd.isAgg87
  z167 := Tryd.sizeOf87
  v167 := Tryd.zeroValue87
  t168 := Tryd.underlying90
  a168 := Tryd.isAgg90
  z168 := Tryd.sizeOf90
  v168 := Tryd.zeroValue90
  t171 := Tryd.underlying93
  a171 := Tryd.isAgg93
  z171 := Tryd.sizeOf93
  v171 := Tryd.zeroValue93
  t173 := Tryd.underlying97
  a173 := Tryd.isAgg97
  z173 := Tryd.sizeOf97
  v173 := Tryd.zeroValue97
  t175 := Tryd.underlying99
  a175 := Tryd.isAgg99
  z175 := Tryd.sizeOf99
  v175 := Tryd.zeroValue99
  t210 := Tryd.underlying104
  a210 := Tryd.isAgg104
  z210 := Tryd.sizeOf104
  v210 := Tryd.zeroValue104
  t212 := Tryd.underlying108
  a212 := Tryd.isAgg108
  z212 := Tryd.sizeOf108
  v212 := Tryd.zeroValue108
  t213 := Tryd.underlying110
  a213 := Tryd.isAgg110
  z213 := Tryd.sizeOf110
  t232 := Tryd.underlying118
  a232 := Tryd.isAgg118
  z232 := Tryd.sizeOf118
  v232 := Tryd.zeroValue118
  t233 := Tryd.underlying119
  a233 := Tryd.isAgg119
  z233 := Tryd.sizeOf119
  v233 := Tryd.zeroValue119
  g15 := by kernel_rfl
  g16 := by kernel_rfl
  g17 := by kernel_rfl
  g18 := by kernel_rfl
  g19 := by kernel_rfl
  t80 := Tryd.underlying120
  a80 := Tryd.isAgg120
  z80 := Tryd.sizeOf120
  v80 := Tryd.zeroValue120
  i0 := by kernel_rfl
  i2 := by kernel_rfl
  i3 := by kernel_rfl
  i4 := by kernel_rfl
  i5 := by kernel_rfl
  i9 := by kernel_rfl
  i20 := by kernel_rfl
  i21 := by kernel_rfl
  i37 := by kernel_rfl
  i46 := by kernel_rfl
  i51 := by kernel_rfl
  i53 := by kernel_rfl
  i75 := by kernel_rfl
  i76 := by kernel_rfl
  i80 := by kernel_rfl
  i85 := by kernel_rfl
  i127 := by kernel_rfl
  i143 := by kernel_rfl
  i145 := by kernel_rfl
  i167 := by kernel_rfl
  i168 := by kernel_rfl
  i171 := by kernel_rfl
  i173 := by kernel_rfl
  i175 := by kernel_rfl
  i210 := by kernel_rfl
  i212 := by kernel_rfl
  i232 := by kernel_rfl
  i233 := by kernel_rfl
  m15 := by kernel_rfl
  m16 := by kernel_rfl
  m17 := by kernel_rfl
  m18 := by kernel_rfl
  m19 := by kernel_rfl
  c0 := by kernel_rfl
  c2 := by kernel_rfl
  c3 := by kernel_rfl
  c4 := by kernel_rfl
  c5 := by kernel_rfl
  c9 := by kernel_rfl
  c20 := by kernel_rfl
  c21 := by kernel_rfl
  c37 := by kernel_rfl
  c46 := by kernel_rfl
  c51 := by kernel_rfl
  c53 := by kernel_rfl
  c75 := by kernel_rfl
  c76 := by kernel_rfl
  c80 := by kernel_rfl
  c85 := by kernel_rfl
  c127 := by kernel_rfl
  c143 := by kernel_rfl
  c145 := by kernel_rfl
  c167 := by kernel_rfl
  c168 := by kernel_rfl
  c171 := by kernel_rfl
  c173 := by kernel_rfl
  c175 := by kernel_rfl
  c210 := by kernel_rfl
  c212 := by kernel_rfl
  c213 := by kernel_rfl
  c232 := by kernel_rfl
  c233 := by kernel_rfl }
open Go.RowKit in
/-- strconv.Atoi, AT EVERY STRING THAT SPELLS AN int ('Lib.atoiAll .. = .ok v'; of whatever length: leading zeros count): v, AND NO ERROR. The world: as it was, or with the one new row that '[]byte(..)' lays. (LAID: no walk: one application.) -/
theorem Tryd.strconv_Atoi_ok (s : ByteArray) (hmax : s.size ≤ 9223372036854775806) (v : Int) (h : Lib.atoiAll s.data.toList = .ok v) (w : World) :
    Calls Tryd.prog 57 #[.string s] w fun e w' => e = .returned (.tuple #[.int .i64 v, .nilIface]) ∧ (w' = w ∨ ∃ t, w' = Lib.bytesWorld w 5 t) := Any.strconv_Atoi_ok Tryd.laysC172 s hmax v h w
open Go.RowKit in
theorem Tryd.strconv_Atoi_syntax_var (s : ByteArray) (hlim : s.size ≤ 281474976710656) (h : Lib.atoiAll s.data.toList = Lib.atoiAll []) (tp : TypeId) (p : Value) (w : World) (hvar : w.var? Tryd.prog "strconv.ErrSyntax" = some #[.iface tp p]) :
    Calls Tryd.prog 57 #[.string s] w fun e w' => ∃ N, e = .returned (.tuple #[.int .i64 0, .iface 90 (.pointer (some ⟨N, 0, none⟩))]) ∧ w.heap.size ≤ N ∧ w'.heap[N]? = some (.cells #[.string ⟨#[65, 116, 111, 105]⟩, .string s, .iface tp p] 104 (0, 0)) ∧ Below w.heap.size w w' := Any.strconv_Atoi_syntax_var Tryd.laysC172 s hlim h tp p w hvar
open Go.RowKit in
theorem Tryd.strconv_Atoi_range_var (s : ByteArray) (hlim : s.size ≤ 281474976710656) (h : Lib.atoiAll s.data.toList = .range) (tp : TypeId) (p : Value) (w : World) (hvar : w.var? Tryd.prog "strconv.ErrRange" = some #[.iface tp p]) :
    Calls Tryd.prog 57 #[.string s] w fun e w' => ∃ N, e = .returned (.tuple #[.int .i64 (Lib.atoiSat s.data.toList), .iface 90 (.pointer (some ⟨N, 0, none⟩))]) ∧ w.heap.size ≤ N ∧ w'.heap[N]? = some (.cells #[.string ⟨#[65, 116, 111, 105]⟩, .string s, .iface tp p] 104 (0, 0)) ∧ Below w.heap.size w w' := Any.strconv_Atoi_range_var Tryd.laysC172 s hlim h tp p w hvar
end Go.Proofs

/-
  Texts: parts between separators, and numbers.
-/
namespace Go.Proofs.YtnfokjlplbbbeaaDoor
open Go.Lib
/-- What stands between the bytes b of a text. -/
def partsM (b : UInt8) : List UInt8 → List (List UInt8)
  | [] => [[]]
  | c :: r => if c = b then [] :: partsM b r else match partsM b r with
    | p :: ps => (c :: p) :: ps
    | [] => [[c]]
def joinM (b : UInt8) : List (List UInt8) → List UInt8
  | [] => []
  | [p] => p
  | p :: q :: r => p ++ b :: joinM b (q :: r)
theorem parts_ne (b : UInt8) : ∀ l, partsM b l ≠ []
  | [] => by simp [partsM]
  | c :: r => by
    rw [partsM]; split
    · simp
    · split <;> simp
theorem parts_none {b : UInt8} : ∀ {l : List UInt8}, b ∉ l → partsM b l = [l]
  | [], _ => rfl
  | c :: r, h => by
    rw [partsM, if_neg (fun e => h (by rw [e]; exact List.mem_cons_self)), parts_none (fun hr => h (List.mem_cons_of_mem _ hr))]
theorem parts_cut {b : UInt8} : ∀ {a : List UInt8} (r : List UInt8), b ∉ a → partsM b (a ++ b :: r) = a :: partsM b r
  | [], r, _ => by rw [List.nil_append, partsM, if_pos rfl]
  | c :: a, r, h => by
    rw [List.cons_append, partsM, if_neg (fun e => h (by rw [e]; exact List.mem_cons_self)), parts_cut r (fun hr => h (List.mem_cons_of_mem _ hr))]
theorem parts_len (b : UInt8) : ∀ l, (partsM b l).length ≤ l.length + 1
  | [] => by simp [partsM]
  | c :: r => by
    have ih := parts_len b r
    rw [partsM]; split
    · simp only [List.length_cons]; omega
    · split
      · rename_i p ps e; rw [e] at ih; simp only [List.length_cons] at ih ⊢; omega
      · simp
theorem parts_each (b : UInt8) : ∀ l, ∀ q ∈ partsM b l, q.length ≤ l.length
  | [], q, h => by rw [partsM, List.mem_singleton] at h; rw [h]; exact Nat.le_refl _
  | c :: r, q, h => by
    rw [partsM] at h
    split at h
    · rcases List.mem_cons.1 h with rfl | h
      · exact Nat.zero_le _
      · have := parts_each b r q h; rw [List.length_cons]; omega
    · split at h
      · rename_i p ps e
        rcases List.mem_cons.1 h with rfl | h
        · have := parts_each b r p (by rw [e]; exact List.mem_cons_self); simp only [List.length_cons]; omega
        · have := parts_each b r q (by rw [e]; exact List.mem_cons_of_mem _ h); rw [List.length_cons]; omega
      · rename_i e; exact absurd e (parts_ne b r)
theorem join_cons (b : UInt8) (p : List UInt8) {ps : List (List UInt8)} (h : ps ≠ []) : joinM b (p :: ps) = p ++ b :: joinM b ps := by
  cases ps with
  | nil => exact absurd rfl h
  | cons q r => rfl
theorem join_parts (b : UInt8) : ∀ l, joinM b (partsM b l) = l
  | [] => rfl
  | c :: r => by
    have ih := join_parts b r
    rw [partsM]; split
    · rename_i e; rw [join_cons b _ (parts_ne b r), ih, e]; rfl
    · split
      · rename_i p ps e
        rw [e] at ih
        cases ps with
        | nil => rw [joinM] at ih ⊢; rw [ih]
        | cons q s => rw [joinM] at ih ⊢; rw [List.cons_append, ih]
      · rename_i e; exact absurd e (parts_ne b r)
theorem join_inj {b : UInt8} {p q : List UInt8} {ps : List (List UInt8)} (h : joinM b (p :: ps) = joinM b (q :: ps)) : p = q := by
  cases ps with
  | nil => exact h
  | cons a r => rw [joinM, joinM] at h; exact List.append_cancel_right h
/-- The step of the loop over a text's bytes. -/
theorem parts_step {b : UInt8} {l : List UInt8} {a i : Nat} (ha : a ≤ i) (hi : l[i]? = some b) (h : b ∉ (l.drop a).take (i - a)) : partsM b (l.drop a) = ((l.take i).drop a) :: partsM b (l.drop (i + 1)) := by
  obtain ⟨hlt, e⟩ := List.getElem?_eq_some_iff.1 hi
  have e1 : l.drop a = (l.drop a).take (i - a) ++ b :: l.drop (i + 1) := by
    conv => lhs; rw [← List.take_append_drop (i - a) (l.drop a), List.drop_drop, show a + (i - a) = i from by omega, List.drop_eq_getElem_cons hlt, e]
  rw [e1, parts_cut _ h, List.drop_take]
theorem parts_last {b : UInt8} {l : List UInt8} {a : Nat} (h : b ∉ (l.drop a).take (l.length - a)) : partsM b (l.drop a) = [l.drop a] := by
  rw [List.take_of_length_le (by rw [List.length_drop]; omega)] at h
  exact parts_none h
theorem seg_next {b c : UInt8} {l : List UInt8} {a i : Nat} (ha : a ≤ i) (hi : l[i]? = some c) (hc : c ≠ b) (h : b ∉ (l.drop a).take (i - a)) : b ∉ (l.drop a).take (i + 1 - a) := by
  have e : (l.drop a).take (i + 1 - a) = (l.drop a).take (i - a) ++ [c] := by
    rw [show i + 1 - a = i - a + 1 from by omega, List.take_add_one, List.getElem?_drop, show a + (i - a) = i from by omega, hi]; rfl
  rw [e]
  intro hm
  rcases List.mem_append.1 hm with hm | hm
  · exact h hm
  · exact hc (List.mem_singleton.1 hm).symm
/-! ### Numbers -/
/-- The digits of a number, the last first taken off. -/
def digL (n : Nat) (out : List UInt8) : List UInt8 := if h : n = 0 then out else digL (n / 10) (UInt8.ofNat (48 + n % 10) :: out)
termination_by n
decreasing_by omega
theorem digL_dec : ∀ (n : Nat) (out : List UInt8), n ≠ 0 → digL n out = decDigits n ++ out := by
  intro n
  induction n using Nat.strongRecOn with
  | _ n ih =>
    intro out h
    rw [digL, dif_neg h, decDigits]
    by_cases h10 : n < 10
    · rw [dif_pos h10, show n / 10 = 0 from by omega, digL, dif_pos rfl, Nat.mod_eq_of_lt h10]; rfl
    · rw [dif_neg h10, ih (n / 10) (by omega) _ (by omega)]; simp
def digitB (b : UInt8) : Bool := decide (48 ≤ b.toNat) && decide (b.toNat ≤ 57)
def valM (l : List UInt8) : Nat := l.foldl (fun n b => 10 * n + (b.toNat - 48)) 0
theorem val_snoc (l : List UInt8) (b : UInt8) : valM (l ++ [b]) = 10 * valM l + (b.toNat - 48) := by rw [valM, List.foldl_append]; rfl
theorem dig_byte {d : Nat} (h : d < 10) : (UInt8.ofNat (48 + d)).toNat = 48 + d := by
  rw [UInt8.toNat_ofNat']; exact Nat.mod_eq_of_lt (by omega)
theorem dec_val : ∀ n : Nat, valM (decDigits n) = n := by
  intro n
  induction n using Nat.strongRecOn with
  | _ n ih =>
    rw [decDigits]
    split
    · rename_i h; rw [show valM [UInt8.ofNat (48 + n)] = 10 * 0 + ((UInt8.ofNat (48 + n)).toNat - 48) from rfl, dig_byte h]; omega
    · rw [val_snoc, ih (n / 10) (by omega), dig_byte (by omega)]; omega
theorem dec_dig : ∀ n : Nat, (decDigits n).all digitB = true := by
  intro n
  induction n using Nat.strongRecOn with
  | _ n ih =>
    rw [decDigits]
    split
    · rename_i h
      simp only [List.all_cons, List.all_nil, Bool.and_true, digitB, dig_byte h, Bool.and_eq_true, decide_eq_true_eq]; omega
    · rw [List.all_append, ih (n / 10) (by omega)]
      simp only [List.all_cons, List.all_nil, Bool.and_true, Bool.true_and, digitB, dig_byte (show n % 10 < 10 by omega), Bool.and_eq_true, decide_eq_true_eq]; omega
/-- The number whose numeral a text is, if it is at most 999999. -/
def numberM (l : List UInt8) : Int × Bool :=
  if 1 ≤ l.length ∧ l.length ≤ 6 ∧ l.all digitB = true ∧ decDigits (valM l) = l then ((valM l : Int), true) else (0, false)
theorem number_ok {l : List UInt8} {n : Int} (h : numberM l = (n, true)) : 0 ≤ n ∧ n ≤ 999999 ∧ itoa n = l := by
  rw [numberM] at h
  split at h
  · rename_i hh
    obtain ⟨h1, h2, h3, h4⟩ := hh
    obtain ⟨rfl, _⟩ := Prod.mk.inj h
    refine ⟨by omega, ?_, by rw [itoa_nonneg, h4]⟩
    have h5 := lt_pow_nDigits (valM l)
    rw [← decDigits_length, h4] at h5
    have h6 : 10 ^ l.length ≤ 10 ^ 6 := Nat.pow_le_pow_right (by decide) h2
    omega
  · cases (Prod.mk.inj h).2
theorem digits_pow : ∀ k u : Nat, k + 1 < nDigits u → 10 ^ (k + 1) ≤ u
  | 0, u, hu => by
    by_cases h10 : u < 10
    · rw [nDigits_small h10] at hu; omega
    · simpa using Nat.le_of_not_lt h10
  | k + 1, u, hu => by
    by_cases h10 : u < 10
    · rw [nDigits_small h10] at hu; omega
    · rw [nDigits_big h10] at hu
      have := digits_pow k (u / 10) (by omega)
      rw [Nat.pow_succ]; omega
theorem number_mk {n : Int} (h0 : 0 ≤ n) (h1 : n ≤ 999999) : numberM (itoa n) = (n, true) := by
  obtain ⟨u, rfl⟩ := Int.eq_ofNat_of_zero_le h0
  have a1 : 1 ≤ (decDigits u).length := by rw [decDigits_length]; exact nDigits_pos u
  have a2 : (decDigits u).length ≤ 6 := by
    rw [decDigits_length]
    apply Decidable.byContradiction
    intro h
    have h7 := digits_pow 5 u (by omega)
    omega
  rw [itoa_nonneg, numberM]
  simp only [dec_val]
  exact if_pos ⟨a1, a2, dec_dig u, trivial⟩
theorem decFrom_val : ∀ (l : List UInt8) (acc : Nat), l.all digitB = true → decFrom acc l = some (l.foldl (fun n b => 10 * n + (b.toNat - 48)) acc)
  | [], acc, _ => rfl
  | b :: r, acc, h => by
    rw [List.all_cons, Bool.and_eq_true] at h
    have h1 := h.1
    rw [digitB, Bool.and_eq_true, decide_eq_true_eq, decide_eq_true_eq] at h1
    rw [decFrom, digitVal, if_pos h1]
    dsimp only
    rw [decFrom_val r _ h.2, List.foldl_cons, Nat.mul_comm acc 10]
theorem dec_ne (u : Nat) : ∃ b r, decDigits u = b :: r := by
  cases h : decDigits u with
  | nil => have := decDigits_length u; have := nDigits_pos u; rw [h] at *; simp only [List.length_nil] at *; omega
  | cons b r => exact ⟨b, r, rfl⟩
theorem atoi_itoa {n : Int} (h0 : 0 ≤ n) (h1 : n ≤ 999999) : atoiAll (itoa n) = .ok n := by
  obtain ⟨u, rfl⟩ := Int.eq_ofNat_of_zero_le h0
  have hl : (itoa (u : Int)).length ≤ 6 := by
    have := number_mk h0 h1
    rw [numberM] at this
    split at this
    · rename_i hh; exact hh.2.1
    · cases (Prod.mk.inj this).2
  rw [itoa_nonneg] at hl ⊢
  rw [atoiAll_short _ (by omega)]
  obtain ⟨b, r, hb⟩ := dec_ne u
  have hd := dec_dig u
  have hv := dec_val u
  rw [hb] at hd hv ⊢
  have hd1 := hd
  rw [List.all_cons, Bool.and_eq_true, digitB, Bool.and_eq_true, decide_eq_true_eq, decide_eq_true_eq] at hd1
  have e : atoi (b :: r) = some (u : Int) := by
    rw [atoi, if_neg, if_neg, decNat]
    · rw [if_neg (by simp), decFrom_val _ _ hd]
      rw [valM] at hv
      rw [hv]; rfl
    · intro e; have := eq_of_beq e; subst this; exact absurd hd1.1.1 (by decide)
    · intro e; have := eq_of_beq e; subst this; exact absurd hd1.1.1 (by decide)
  rw [e]; rfl
/-- What the program's Number makes of the library's answer. -/
theorem number_of_ok {l : List UInt8} {v : Int} (h : atoiAll l = .ok v) : numberM l = if 0 ≤ v ∧ v ≤ 999999 ∧ itoa v = l then (v, true) else (0, false) := by
  split
  · rename_i hh; rw [← hh.2.2]; exact number_mk hh.1 hh.2.1
  · rename_i hh
    cases hn : numberM l with
    | mk n b =>
      cases b with
      | false => rw [numberM] at hn; split at hn
                 · cases (Prod.mk.inj hn).2
                 · exact hn.symm
      | true =>
        obtain ⟨a1, a2, a3⟩ := number_ok hn
        have := atoi_itoa a1 a2
        rw [a3, h] at this
        injection this with this
        subst this
        exact absurd ⟨a1, a2, a3⟩ hh
theorem number_of_no {l : List UInt8} (h : ∀ v, atoiAll l ≠ .ok v) : numberM l = (0, false) := by
  cases hn : numberM l with
  | mk n b =>
    cases b with
    | false => rw [numberM] at hn; split at hn
               · cases (Prod.mk.inj hn).2
               · exact hn.symm
    | true =>
      obtain ⟨a1, a2, a3⟩ := number_ok hn
      have := atoi_itoa a1 a2
      rw [a3] at this
      exact absurd this (h n)
/-- What the reference's Number makes of a text's digits. -/
theorem number_len {l : List UInt8} (h : ¬ (1 ≤ l.length ∧ l.length ≤ 6)) : numberM l = (0, false) := by rw [numberM, if_neg (fun k => h ⟨k.1, k.2.1⟩)]
theorem number_dig {l : List UInt8} {k : Nat} {b : UInt8} (hb : l[k]? = some b) (h : digitB b = false) : numberM l = (0, false) := by
  rw [numberM, if_neg]
  rintro ⟨_, _, h3, _⟩
  have := List.all_eq_true.1 h3 b (List.mem_of_getElem? hb)
  rw [h] at this; cases this
theorem number_all {l : List UInt8} (h1 : 1 ≤ l.length) (h2 : l.length ≤ 6) (h3 : l.all digitB = true) : numberM l = if decDigits (valM l) = l then ((valM l : Int), true) else (0, false) := by
  rw [numberM]
  by_cases h : decDigits (valM l) = l
  · rw [if_pos h, if_pos ⟨h1, h2, h3, h⟩]
  · rw [if_neg h, if_neg (fun k => h k.2.2.2)]
theorem val_next {l : List UInt8} {k : Nat} {b : UInt8} (hb : l[k]? = some b) : valM (l.take (k + 1)) = 10 * valM (l.take k) + (b.toNat - 48) := by
  rw [List.take_add_one, hb]; exact val_snoc _ _
theorem val_lt : ∀ {l : List UInt8}, l.all digitB = true → valM l < 10 ^ l.length := by
  intro l h
  have e : l = l.reverse.reverse := by simp
  have : ∀ m : List UInt8, m.all digitB = true → valM m.reverse < 10 ^ m.length := by
    intro m
    induction m with
    | nil => intro _; decide
    | cons b r ih =>
      intro h
      rw [List.all_cons, Bool.and_eq_true] at h
      have h1 := h.1
      rw [digitB, Bool.and_eq_true, decide_eq_true_eq, decide_eq_true_eq] at h1
      rw [List.reverse_cons, val_snoc, List.length_cons, Nat.pow_succ]
      have := ih h.2
      omega
  have h2 := this l.reverse (by rw [List.all_reverse]; exact h)
  rw [List.reverse_reverse, List.length_reverse] at h2
  exact h2
end Go.Proofs.YtnfokjlplbbbeaaDoor

/-
  Texts in the logic of chunks.
-/
namespace Go.Proofs.YtnfokjlplbbbeaaDoor
open Go.RowKit
/-- A text, as a value. -/
abbrev sv (l : List UInt8) : Value := .string ⟨l.toArray⟩
def scell (l : List UInt8) : List Value := [sv l]
theorem sv_list (l : List UInt8) : (ByteArray.mk l.toArray).toList = l := by rw [ByteArray.toList_eq]
theorem sv_size (l : List UInt8) : (ByteArray.mk l.toArray).size = l.length := rfl
class TyStr (P : Program) (t : TypeId) : Prop where
  h : P.underlying t = some .string
instance : TyStr Tryd.prog 9 := ⟨by kernel_rfl⟩
instance : TyStr Tryd.prog 10 := ⟨by kernel_rfl⟩
instance : TyStr Tryd.prog 11 := ⟨by kernel_rfl⟩
section
variable {P : Program} {n : Nat} {w0 : World} {fr : Fr} {H : List Ch} {x y z : Operand} {t t' : TypeId} {k k' : IntKind} {l m : List UInt8} {p q : Int}
theorem rv_lenS [hT : TyStr P t] (hx : opv fr x = some (sv l)) : RunsV P n w0 fr H (.call ⟨.builtin .len, #[x], #[t]⟩) (.int .i64 (l.length : Int)) := fun a w hr _ _ _ _ _ _ => by
  simp [execOp, resolve, invoke, builtin, hr.opv hx, Builtin.len_, run_underlying hT.h, goInt, sv_size]
theorem sv_get {i : Nat} {b : UInt8} (h : l[i]? = some b) : (ByteArray.mk l.toArray)[i]? = some b := by
  obtain ⟨hi, e⟩ := List.getElem?_eq_some_iff.1 h
  rw [ByteArray.getElem?_lt' _ _ (show i < (ByteArray.mk l.toArray).size from hi), ← e]; rfl
theorem rv_idxS [hT : TyStr P t] {i : Nat} {b : UInt8} (hx : opv fr x = some (sv l)) (hy : opv fr y = some (.int k (i : Int))) (hb : l[i]? = some b) : RunsV P n w0 fr H (.index t x y) (.int .u8 b.toNat) := fun a w hr _ _ _ _ _ _ => by
  simp [execOp, hr.opv hx, hr.opv hy, Instr.index, asIntOf, run_underlying hT.h, sv_get hb]
theorem sv_ext (l : List UInt8) (a b : Nat) : (ByteArray.mk l.toArray).extract a b = ⟨((l.drop a).take (b - a)).toArray⟩ := Go.Lib.extract_eq _ _ _
theorem rv_slcS [hT : TyStr P t] {a b : Nat} (hx : opv fr x = some (sv l)) (hy : opv fr y = some (.int k (a : Int))) (hz : opv fr z = some (.int k' (b : Int))) (hab : a ≤ b) (hb : b ≤ l.length) :
    RunsV P n w0 fr H (.slice t x (some y) (some z) none) (sv ((l.take b).drop a)) := fun c w hr _ _ _ _ _ _ => by
  have e1 : (a : Int) ≤ (b : Int) := by omega
  have e2 : (b : Int) ≤ (l.length : Int) := by omega
  simp [execOp, hr.opv hx, hr.opv hy, hr.opv hz, Instr.sliceAt, Instr.slice, run_underlying hT.h, Instr.sliceBounds, run_sliceBound, sv_size, e1, e2, sv_ext, List.drop_take]
theorem rv_slcSL [hT : TyStr P t] {a : Nat} (hx : opv fr x = some (sv l)) (hy : opv fr y = some (.int k (a : Int))) (ha : a ≤ l.length) :
    RunsV P n w0 fr H (.slice t x (some y) none none) (sv (l.drop a)) := fun c w hr _ _ _ _ _ _ => by
  have e1 : (a : Int) ≤ (l.length : Int) := by omega
  have e3 : (l.drop a).take (l.length - a) = l.drop a := List.take_of_length_le (by rw [List.length_drop]; omega)
  simp [execOp, hr.opv hx, hr.opv hy, Instr.sliceAt, Instr.slice, run_underlying hT.h, Instr.sliceBounds, run_sliceBound, sv_size, e1, sv_ext, e3]
theorem sv_app (l m : List UInt8) : (ByteArray.mk l.toArray) ++ (ByteArray.mk m.toArray) = ⟨(l ++ m).toArray⟩ := by
  apply ByteArray.ext; simp
theorem rv_catS (hx : opv fr x = some (sv l)) (hy : opv fr y = some (sv m)) (h : l.length + m.length ≤ 1152921504606846976) : RunsV P n w0 fr H (.binOp .add t x y t') (sv (l ++ m)) := fun a w hr _ _ _ _ _ _ => by
  simp [execOp, hr.opv hx, hr.opv hy, eqGuard_add, binOp_string_add, Op.stringOp, sv_size, sv_app]
  omega
theorem beq_dec (l m : List UInt8) : (l == m) = decide (l = m) := by rw [Bool.eq_iff_iff]; simp
theorem rv_neqS (hx : opv fr x = some (sv l)) (hy : opv fr y = some (sv m)) : RunsV P n w0 fr H (.binOp .neq t x y t') (.bool (decide (¬ l = m))) := fun a w hr _ _ _ _ _ _ => by
  simp [execOp, hr.opv hx, hr.opv hy, eqGuard_at_string, binOp_string_neq, sv_list, beq_dec]
theorem push_list : ∀ (l : List UInt8) (s : List UInt8), (l.map fun b => ((b.toNat : Int))).foldl (fun (r : ByteArray) (n : Int) => r.push (UInt8.ofNat n.toNat)) ⟨s.toArray⟩ = ⟨(s ++ l).toArray⟩
  | [], s => by simp
  | b :: l, s => by
    rw [List.map_cons, List.foldl_cons]
    have e : (ByteArray.mk s.toArray).push (UInt8.ofNat ((b.toNat : Int)).toNat) = ⟨(s ++ [b]).toArray⟩ := by
      apply ByteArray.ext; simp [ByteArray.push]
    rw [e, push_list l]; simp
/-- A text made of a list of bytes. -/
theorem rv_str {src dst e : TypeId} [hS : TySlice P src e] (he : P.underlying e = some (.int .u8)) [hD : TyStr P dst] {v : Value} (hx : opv fr x = some v) (hv : ∀ w, HeapOk w0 w H → Rd w v 1 (l.map fun b => [Value.int .u8 (b.toNat : Int)])) :
    RunsV P n w0 fr H (.convert src dst x) (sv l) := fun a w hr hh _ _ _ _ _ => by
  have hrd := hv w hh
  obtain ⟨ad, cap, rfl, h1, h2, h3⟩ := hrd.form
  have hlen : (l.map fun b => [Value.int .u8 (b.toNat : Int)]).length = l.length := List.length_map ..
  have hfl : (l.map fun b => [Value.int .u8 (b.toNat : Int)]).flatten = (l.map fun b => ((b.toNat : Int))).map (Value.int .u8) := by
    rw [List.map_map]; clear hlen hrd hv hx h1 h2 h3
    induction l with
    | nil => rfl
    | cons b l ih => rw [List.map_cons, List.flatten_cons, ih]; rfl
  rw [hlen] at hx h3
  have hxx := hr.opv hx
  simp only [execOp, hxx]
  cases ad with
  | none =>
    have : l = [] := by
      cases l with
      | nil => rfl
      | cons b l => obtain ⟨_, _, e⟩ := h3 (by simp); cases e
    subst this
    have := run_convert_bytes_string (P := P) w src dst e none 0 cap hS.h he hD.h
    simp only [List.length_nil]
    simp [this, Conv.bytesToString]
    try rfl
  | some ad =>
    have hl := run_loadCells_list (P := P) w ad ((l.map fun b => ((b.toNat : Int))).map (Value.int .u8)) (fun j u hj => by
      have hj2 := hrd.cells j u (by rw [hfl]; exact hj)
      by_cases hl0 : 0 < l.length
      · obtain ⟨b, o, e⟩ := h3 hl0
        cases e
        simpa [blkOf, offOf, Addr.add_lit] using hj2
      · have : l = [] := List.length_eq_zero_iff.1 (by omega)
        subst this; simp at hj)
    rw [List.length_map, List.length_map] at hl
    have h5 := run_bytesToString w ad l.length cap _ hl
    have := run_convert_bytes_string (P := P) w src dst e (some ad) l.length cap hS.h he hD.h
    have h6 := push_list l []
    simp only [List.nil_append] at h6
    simp [this, h5]
    exact h6
end
end Go.Proofs.YtnfokjlplbbbeaaDoor

/-
  Numbers told, and texts taken apart: both ways.
-/
namespace Go.Proofs.YtnfokjlplbbbeaaDoor
open Go.RowKit Go.Lib
section
variable {P : Program} {n : Nat} {w0 : World} {fr : Fr} {H : List Ch} {x y : Operand} {t t' : TypeId} {k : IntKind} {m : Nat}
theorem rv_rem10 (hx : opv fr x = some (.int k (m : Int))) (hy : opv fr y = some (.int k 10)) : RunsV P n w0 fr H (.binOp .rem t x y t') (.int k ((m % 10 : Nat) : Int)) := by
  have h := rv_rem (P := P) (n := n) (w0 := w0) (H := H) (t := t) (t' := t') hx hy (by decide)
  have e : ((m % 10 : Nat) : Int) = ((m : Int)).tmod 10 := by rw [Int.tmod_eq_emod_of_nonneg (by omega)]; omega
  rw [e]; exact h
theorem rv_quo10 (hx : opv fr x = some (.int .i64 (m : Int))) (hy : opv fr y = some (.int .i64 10)) (hm : m ≤ 999999) : RunsV P n w0 fr H (.binOp .quo t x y t') (.int .i64 ((m / 10 : Nat) : Int)) := by
  have h := rv_quo (P := P) (n := n) (w0 := w0) (H := H) (t := t) (t' := t') hx hy (by decide)
  have e : ((m / 10 : Nat) : Int) = IntKind.i64.wrap (((m : Int)).tdiv 10) := by rw [Int.tdiv_eq_ediv_of_nonneg (by omega), wrap64_id (by omega) (by omega)]; omega
  rw [e]; exact h
theorem rv_conv8 {src dst : TypeId} [hs : TyInt P src .i64] [hd : TyInt P dst .u8] (hx : opv fr x = some (.int .i64 (48 + (m : Int)))) (hm : m < 10) : RunsV P n w0 fr H (.convert src dst x) (.int .u8 ((UInt8.ofNat (48 + m)).toNat : Int)) := by
  have h := rv_conv (P := P) (n := n) (w0 := w0) (H := H) (src := src) (dst := dst) hx
  have e : ((UInt8.ofNat (48 + m)).toNat : Int) = IntKind.u8.wrap (48 + (m : Int)) := by
    rw [dig_byte hm]
    have : ∀ j : Fin 10, ((48 + j.val : Nat) : Int) = IntKind.u8.wrap (48 + (j.val : Int)) := by decide
    exact this ⟨m, hm⟩
  rw [e]; exact h
theorem rv_convB {src dst : TypeId} {b : UInt8} [hs : TyInt P src .u8] [hd : TyInt P dst .i64] (hx : opv fr x = some (.int .u8 (b.toNat : Int))) : RunsV P n w0 fr H (.convert src dst x) (.int .i64 (b.toNat : Int)) := by
  have h := rv_conv (P := P) (n := n) (w0 := w0) (H := H) (src := src) (dst := dst) hx
  have := b.toNat_lt
  rwa [wrap64_id (by omega) (by omega)] at h
end
theorem digL_next {m : Nat} (h : ¬ m = 0) (out : List UInt8) : digL (m / 10) (UInt8.ofNat (48 + m % 10) :: out) = digL m out := by rw [digL.eq_1 m out, dif_neg h]
theorem digL_zero (out : List UInt8) : digL 0 out = out := by rw [digL, dif_pos rfl]
attribute [local irreducible] Go.wpList Go.Code.wp Go.Exit.then Go.Exit.inBlock Go.bodyPost Go.Calls pE pB G RunsV FnV Fn FnM
set_option maxRecDepth 100000
set_option maxHeartbeats 4000000
theorem sdigits_any {u : Nat} (hu : u ≤ 999999) (w : World) : FnV Tryd.prog 45 [.int .i64 (u : Int)] w (sv (decDigits u)) := by
  refine FnV.of (n := 31) Tryd.func45 rfl rfl ?_; refine G.seq (G.region (G.v (rv_assign rfl) rfl (G.done (G.thenN (G.seq (G.seq (G.region (G.v (rv_move rfl) rfl (G.v (rv_eql rfl rfl) rfl (G.done (G.thenN ?_))))))))))); refine G.cond rfl (fun hc => ?_) (fun hc => ?_)
  · try exact Bool.noConfusion hc
    all_goals
     try replace hc := of_decide_eq_true hc
     try (exfalso; first | contradiction | omega)
     all_goals
      refine G.seq (G.region (G.v (rv_assign rfl) rfl (G.done (G.thenN (G.ret (G.thenR ?_))))))
      first | exact G.retFV rfl rfl (by rw [show u = 0 by omega, decDigits_one (by decide)]; rfl) | exact G.retFV rfl rfl (by rw [← hd, show m = 0 by omega, digL_zero])
  · try exact Bool.noConfusion hc
    all_goals
     try replace hc := of_decide_eq_false hc
     try (exfalso; first | contradiction | omega)
     all_goals
      refine G.skip (G.thenN (G.seq (G.region (G.v (rv_move rfl) rfl (G.v (rv_lss rfl rfl) rfl (G.v (rv_assign rfl) rfl (G.done (G.thenN (G.seq (G.region (G.v (rv_assign rfl) rfl ?_))))))))))); refine G.done (G.thenN (G.seq (G.block ?_)))
      -- loop 0: turned [0, 4], kept [3]
      have hu0 : ¬ u = 0 := (by omega)
      refine G.loopK (ι := Nat × List UInt8) (ks := [3]) (fun x => [(0, .int .i64 (x.1 : Int)), (4, sv x.2)]) (fun _ => []) (fun x => digL x.1 x.2 = decDigits u ∧ x.1 ≤ 999999 ∧ x.2.length + x.1 ≤ 999999) (fun x => x.1) (u, []) (.cons rfl (.nil)) rfl ?_ ?_ ?_
      · exact ⟨by rw [digL_dec u [] hu0]; simp, hu, by simpa using hu⟩
      · exact ⟨rfl, rfl, trivial⟩
      rintro ⟨m, out⟩ ⟨hd, hm, hol⟩
      dsimp only at hd hm hol ⊢
      all_goals
       refine G.seq (G.seq (G.region (G.v (rv_move rfl) rfl (G.v (rv_neq rfl rfl) rfl (G.done (G.thenN ?_)))))); refine G.cond rfl (fun hc => ?_) (fun hc => ?_)
       · try exact Bool.noConfusion hc
         all_goals
          try replace hc := of_decide_eq_true hc
          try (exfalso; first | contradiction | omega)
          all_goals
           refine G.skip (G.thenN (G.block (G.seq (G.region (G.v (rv_move rfl) rfl ?_))))); refine G.v (rv_rem10 rfl rfl) rfl ?_; refine G.v (rv_assign rfl) rfl (G.done (G.thenN (G.seq (G.seq (G.region (G.v (rv_move rfl) rfl (G.v (rv_lss rfl rfl) rfl (G.done (G.thenN ?_))))))))); refine G.cond rfl (fun hc => ?_) (fun hc => ?_)
           · try exact Bool.noConfusion hc
             all_goals
              try replace hc := of_decide_eq_true hc
              try (exfalso; first | contradiction | omega)
              all_goals
               refine G.region (G.v (rv_move rfl) rfl ?_)
               (first | refine G.v (rv_decr rfl rfl (by omega) (by omega)) rfl ?_ | refine G.v (rv_subB rfl rfl (by omega) (by omega)) rfl ?_)
               refine G.v (rv_assign rfl) rfl (G.done (G.thenN (G.seq (G.region (G.v (rv_move rfl) rfl ?_)))))
               (first | refine G.v (rv_incr rfl rfl (by omega)) rfl ?_ | refine G.v (rv_addB rfl rfl (by omega) (by omega)) rfl ?_)
               refine G.v (rv_conv8 rfl (by omega)) rfl ?_; refine G.op (og_lit rfl (.cons rfl .nil) rfl rfl rfl rfl rfl rfl) rfl (fun vl _ => ?_); refine G.v (rv_str (l := [UInt8.ofNat (48 + m % 10)]) (by kernel_rfl) rfl (by first | exact Rd.owned 0 rfl | exact Rd.owned 1 rfl)) rfl ?_; refine G.v (rv_move rfl) rfl ?_; refine G.v (rv_catS rfl rfl (by simp only [List.length_cons, List.length_nil]; omega)) rfl ?_; refine G.v (rv_assign rfl) rfl (G.done (G.thenN (G.region (G.v (rv_move rfl) rfl ?_)))); refine G.v (rv_quo10 rfl rfl (by omega)) rfl ?_; refine G.v (rv_assign rfl) rfl (G.done (G.inN ?_))
               first | refine G.backK (m / 10, [UInt8.ofNat (48 + m % 10)] ++ out) 0 rfl (.cons rfl (.nil)) ?_ ?_ ?_ | refine G.backK (m / 10, [UInt8.ofNat (48 + m % 10)] ++ out) 1 rfl (.cons rfl (.nil)) ?_ ?_ ?_ | refine G.backK (m / 10, [UInt8.ofNat (48 + m % 10)] ++ out) 2 rfl (.cons rfl (.nil)) ?_ ?_ ?_ | refine G.backK (m / 10, [UInt8.ofNat (48 + m % 10)] ++ out) 3 rfl (.cons rfl (.nil)) ?_ ?_ ?_
               · exact ⟨rfl, rfl, trivial⟩
               · exact ⟨by rw [← hd]; exact digL_next (by omega) out, by dsimp only; omega, by dsimp only; simp only [List.length_append, List.length_cons, List.length_nil]; omega⟩
               · dsimp only; omega
           · try exact Bool.noConfusion hc
             all_goals
              try replace hc := of_decide_eq_false hc
              try (exfalso; first | contradiction | omega)
              all_goals
               refine G.skip (G.thenN (G.seq (G.region (G.v (rv_move rfl) rfl ?_))))
               (first | refine G.v (rv_incr rfl rfl (by omega)) rfl ?_ | refine G.v (rv_addB rfl rfl (by omega) (by omega)) rfl ?_)
               refine G.v (rv_conv8 rfl (by omega)) rfl ?_; refine G.op (og_lit rfl (.cons rfl .nil) rfl rfl rfl rfl rfl rfl) rfl (fun vl _ => ?_); refine G.v (rv_str (l := [UInt8.ofNat (48 + m % 10)]) (by kernel_rfl) rfl (by first | exact Rd.owned 0 rfl | exact Rd.owned 1 rfl)) rfl ?_; refine G.v (rv_move rfl) rfl ?_; refine G.v (rv_catS rfl rfl (by simp only [List.length_cons, List.length_nil]; omega)) rfl ?_; refine G.v (rv_assign rfl) rfl (G.done (G.thenN (G.region (G.v (rv_move rfl) rfl ?_)))); refine G.v (rv_quo10 rfl rfl (by omega)) rfl ?_; refine G.v (rv_assign rfl) rfl (G.done (G.inN ?_))
               first | refine G.backK (m / 10, [UInt8.ofNat (48 + m % 10)] ++ out) 0 rfl (.cons rfl (.nil)) ?_ ?_ ?_ | refine G.backK (m / 10, [UInt8.ofNat (48 + m % 10)] ++ out) 1 rfl (.cons rfl (.nil)) ?_ ?_ ?_ | refine G.backK (m / 10, [UInt8.ofNat (48 + m % 10)] ++ out) 2 rfl (.cons rfl (.nil)) ?_ ?_ ?_ | refine G.backK (m / 10, [UInt8.ofNat (48 + m % 10)] ++ out) 3 rfl (.cons rfl (.nil)) ?_ ?_ ?_
               · exact ⟨rfl, rfl, trivial⟩
               · exact ⟨by rw [← hd]; exact digL_next (by omega) out, by dsimp only; omega, by dsimp only; simp only [List.length_append, List.length_cons, List.length_nil]; omega⟩
               · dsimp only; omega
       · try exact Bool.noConfusion hc
         all_goals
          try replace hc := of_decide_eq_false hc
          try (exfalso; first | contradiction | omega)
          all_goals
           refine G.exit (G.thenX (G.thenX (G.inX (G.thenN (G.seq (G.seq (G.region (G.v (rv_move rfl) rfl (G.done (G.thenN ?_)))))))))); refine G.cond rfl (fun hc => ?_) (fun hc => ?_)
           · try exact Bool.noConfusion hc
             all_goals
              try replace hc := of_decide_eq_true hc
              try (exfalso; first | contradiction | omega)
              all_goals
               refine G.seq (G.region (G.v (rv_move rfl) rfl ?_)); refine G.v (rv_catS rfl rfl (by omega)) rfl ?_; refine G.v (rv_assign rfl) rfl (G.done (G.thenN (G.ret (G.thenR ?_))))
               first | exact G.retFV rfl rfl (by rw [show u = 0 by omega, decDigits_one (by decide)]; rfl) | exact G.retFV rfl rfl (by rw [← hd, show m = 0 by omega, digL_zero])
           · try exact Bool.noConfusion hc
             all_goals
              try replace hc := of_decide_eq_false hc
              try (exfalso; first | contradiction | omega)
              all_goals
               refine G.skip (G.thenN (G.seq (G.region (G.v (rv_move rfl) rfl (G.v (rv_assign rfl) rfl (G.done (G.thenN (G.ret ?_))))))))
               first | exact G.retFV rfl rfl (by rw [show u = 0 by omega, decDigits_one (by decide)]; rfl) | exact G.retFV rfl rfl (by rw [← hd, show m = 0 by omega, digL_zero])
theorem snumber_any {l : List UInt8} (w : World) : FnV Tryd.prog 32 [sv l] w (.tuple #[.int .i64 (numberM l).1, .bool (numberM l).2]) := by
  refine FnV.of (n := 43) Tryd.func32 rfl rfl ?_; refine G.seq (G.region (G.v (rv_assign rfl) rfl (G.v (rv_assign rfl) rfl (G.done (G.thenN (G.seq (G.seq (G.region (G.v (rv_move rfl) rfl ?_))))))))); refine G.v (rv_lenS rfl) rfl ?_; refine G.v (rv_lss rfl rfl) rfl (G.v (rv_move rfl) rfl ?_)
  all_goals (((with_reducible refine G.gP rfl rfl (fun hg => ?_) (fun hg => ?_)) <;> (try exact Bool.noConfusion hg) <;> (try (exfalso; first | (have hq := of_decide_eq_false hg; omega) | (have hq := of_decide_eq_true hg; omega); done)) <;> (first | (refine G.gY rfl rfl ?_; refine G.v (rv_move rfl) rfl ?_) | refine G.gN rfl rfl rfl ?_ | refine G.gU rfl rfl rfl ?_)))
  all_goals ((first | (refine G.gY rfl rfl ?_; refine G.v (rv_lenS rfl) rfl ?_) | refine G.gN rfl rfl rfl ?_ | refine G.gU rfl rfl rfl ?_))
  all_goals ((first | (refine G.gY rfl rfl ?_; refine G.v (rv_gtr rfl rfl) rfl ?_) | refine G.gN rfl rfl rfl ?_ | refine G.gU rfl rfl rfl ?_))
  all_goals ((first | refine G.v (rv_pickT rfl rfl) rfl ?_ | refine G.v (rv_pickF rfl rfl) rfl ?_))
  all_goals
   refine G.done (G.thenN ?_); refine G.cond rfl (fun hc => ?_) (fun hc => ?_)
   · try exact Bool.noConfusion hc
     all_goals
      try replace hc := of_decide_eq_true hc
      try (exfalso; first | contradiction | omega)
      all_goals
       refine G.seq (G.region (G.v (rv_assign rfl) rfl (G.v (rv_assign rfl) rfl (G.done (G.thenN (G.ret (G.thenR ?_)))))))
       first | exact G.retVL rfl (.cons (.tmp rfl) (.cons (.tmp rfl) .nil)) (by rw [number_len (by first | omega | (have hq := of_decide_eq_true hg; omega))]) | exact G.retVL rfl (.cons (.tmp rfl) (.cons (.tmp rfl) .nil)) (by rw [number_dig hb (by rw [digitB, Bool.and_eq_false_iff, decide_eq_false_iff_not, decide_eq_false_iff_not]; first | omega | (have hq := of_decide_eq_true hg; omega))]) | exact G.retVL rfl (.cons (.tmp rfl) (.cons (.tmp rfl) .nil)) (by rw [number_all hl1 hl6 hdA, if_neg (by rw [← hvA]; exact hc)]) | exact G.retVL rfl (.cons (.tmp rfl) (.cons (.tmp rfl) .nil)) (by rw [number_all hl1 hl6 hdA, if_pos (by rw [← hvA]; simpa using hc), ← hvA])
   · try exact Bool.noConfusion hc
     all_goals
      try replace hc := of_decide_eq_false hc
      try (exfalso; first | contradiction | omega)
      all_goals
       refine G.skip (G.thenN (G.seq (G.region (G.v (rv_assign rfl) rfl (G.done (G.thenN (G.seq (G.seq (G.region (G.v (rv_assign rfl) rfl (G.done ?_))))))))))); refine G.thenN (G.block ?_)
       -- loop 0: turned [4, 5], kept [0]
       have hl1 : 1 ≤ l.length := (by first | omega | (simp_all; omega)); have hl6 : l.length ≤ 6 := (by first | omega | (simp_all; omega))
       refine G.loopK (ι := Nat) (ks := [0]) (fun k => [(4, .int .i64 (valM (l.take k) : Int)), (5, .int .i64 (k : Int))]) (fun _ => []) (fun k => k ≤ l.length ∧ (l.take k).all digitB = true) (fun k => l.length - k) 0 (.cons rfl (.nil)) rfl ?_ ?_ ?_
       · exact ⟨Nat.zero_le _, rfl⟩
       · exact ⟨rfl, rfl, trivial⟩
       rintro k ⟨hk, hd⟩
       have hvl := val_lt hd; have hp6 : 10 ^ (l.take k).length ≤ 10 ^ 6 := Nat.pow_le_pow_right (by decide) (by rw [List.length_take]; omega)
       by_cases hlt : k < l.length
       case' pos => (obtain ⟨b, hb⟩ := get_of_lt hlt; have hvn := val_next hb; have hbl := b.toNat_lt)
       all_goals
        refine G.seq (G.seq (G.region (G.v (rv_move rfl) rfl (G.v (rv_move rfl) rfl ?_)))); refine G.v (rv_lenS rfl) rfl ?_; refine G.v (rv_lss rfl rfl) rfl (G.done (G.thenN ?_)); refine G.cond rfl (fun hc => ?_) (fun hc => ?_)
        · try exact Bool.noConfusion hc
          all_goals
           try replace hc := of_decide_eq_true hc
           try (exfalso; first | contradiction | omega)
           all_goals
            refine G.skip (G.thenN (G.seq (G.block (G.seq (G.seq (G.region (G.v (rv_move rfl) rfl (G.v (rv_move rfl) rfl ?_)))))))); refine G.v (rv_idxS rfl rfl (by assumption)) rfl ?_; refine G.v (rv_lss rfl rfl) rfl (G.v (rv_move rfl) rfl ?_)
            all_goals (((with_reducible refine G.gP rfl rfl (fun hg => ?_) (fun hg => ?_)) <;> (try exact Bool.noConfusion hg) <;> (try (exfalso; first | (have hq := of_decide_eq_false hg; omega) | (have hq := of_decide_eq_true hg; omega); done)) <;> (first | (refine G.gY rfl rfl ?_; refine G.v (rv_move rfl) rfl ?_) | refine G.gN rfl rfl rfl ?_ | refine G.gU rfl rfl rfl ?_)))
            all_goals ((first | (refine G.gY rfl rfl ?_; refine G.v (rv_move rfl) rfl ?_) | refine G.gN rfl rfl rfl ?_ | refine G.gU rfl rfl rfl ?_))
            all_goals ((first | (refine G.gY rfl rfl ?_; refine G.v (rv_idxS rfl rfl (by assumption)) rfl ?_) | refine G.gN rfl rfl rfl ?_ | refine G.gU rfl rfl rfl ?_))
            all_goals ((first | (refine G.gY rfl rfl ?_; refine G.v (rv_gtr rfl rfl) rfl ?_) | refine G.gN rfl rfl rfl ?_ | refine G.gU rfl rfl rfl ?_))
            all_goals ((first | refine G.v (rv_pickT rfl rfl) rfl ?_ | refine G.v (rv_pickF rfl rfl) rfl ?_))
            all_goals
             refine G.done (G.thenN ?_); refine G.cond rfl (fun hc => ?_) (fun hc => ?_)
             · try exact Bool.noConfusion hc
               all_goals
                try replace hc := of_decide_eq_true hc
                try (exfalso; first | contradiction | omega)
                all_goals
                 refine G.seq (G.region (G.v (rv_assign rfl) rfl (G.v (rv_assign rfl) rfl (G.done (G.thenN (G.ret (G.thenR (G.inR (G.thenR (G.thenR (G.inR ?_))))))))))); refine G.thenR ?_
                 first | exact G.retVL rfl (.cons (.tmp rfl) (.cons (.tmp rfl) .nil)) (by rw [number_len (by first | omega | (have hq := of_decide_eq_true hg; omega))]) | exact G.retVL rfl (.cons (.tmp rfl) (.cons (.tmp rfl) .nil)) (by rw [number_dig hb (by rw [digitB, Bool.and_eq_false_iff, decide_eq_false_iff_not, decide_eq_false_iff_not]; first | omega | (have hq := of_decide_eq_true hg; omega))]) | exact G.retVL rfl (.cons (.tmp rfl) (.cons (.tmp rfl) .nil)) (by rw [number_all hl1 hl6 hdA, if_neg (by rw [← hvA]; exact hc)]) | exact G.retVL rfl (.cons (.tmp rfl) (.cons (.tmp rfl) .nil)) (by rw [number_all hl1 hl6 hdA, if_pos (by rw [← hvA]; simpa using hc), ← hvA])
             · try exact Bool.noConfusion hc
               all_goals
                try replace hc := of_decide_eq_false hc
                try (exfalso; first | contradiction | omega)
                all_goals
                 have hd1 : 48 ≤ b.toNat := (by have hq := of_decide_eq_false hg; omega); have hd2 : b.toNat ≤ 57 := (by omega)
                 all_goals
                  refine G.skip (G.thenN (G.region (G.v (rv_move rfl) rfl ?_))); refine G.v (rv_mulB rfl rfl (by omega) (by omega)) rfl ?_; refine G.v (rv_move rfl) rfl (G.v (rv_move rfl) rfl ?_); refine G.v (rv_idxS rfl rfl (by assumption)) rfl ?_; refine G.v (rv_convB rfl) rfl ?_
                  (first | refine G.v (rv_incr rfl rfl (by omega)) rfl ?_ | refine G.v (rv_addB rfl rfl (by omega) (by omega)) rfl ?_)
                  (first | refine G.v (rv_decr rfl rfl (by omega) (by omega)) rfl ?_ | refine G.v (rv_subB rfl rfl (by omega) (by omega)) rfl ?_)
                  refine G.v (rv_assign rfl) rfl (G.done (G.inN (G.thenN (G.region (G.v (rv_move rfl) rfl ?_)))))
                  (first | refine G.v (rv_incr rfl rfl (by omega)) rfl ?_ | refine G.v (rv_addB rfl rfl (by omega) (by omega)) rfl ?_)
                  refine G.v (rv_assign rfl) rfl (G.done ?_)
                  first | refine G.backK (k + 1) 0 rfl (.cons rfl (.nil)) ?_ ?_ ?_ | refine G.backK (k + 1) 1 rfl (.cons rfl (.nil)) ?_ ?_ ?_ | refine G.backK (k + 1) 2 rfl (.cons rfl (.nil)) ?_ ?_ ?_ | refine G.backK (k + 1) 3 rfl (.cons rfl (.nil)) ?_ ?_ ?_
                  · exact ⟨congrArg (fun z => some (Value.int .i64 z)) (by omega), rfl, trivial⟩
                  · exact ⟨hlt, by rw [List.take_add_one, hb, List.all_append, hd]; simp [digitB]; omega⟩
                  · omega
        · try exact Bool.noConfusion hc
          all_goals
           try replace hc := of_decide_eq_false hc
           try (exfalso; first | contradiction | omega)
           all_goals
            refine G.exit (G.thenX (G.thenX (G.inX (G.thenN (G.seq (G.seq (G.region (G.v (rv_move rfl) rfl ?_)))))))); refine G.op (og_callV rfl rfl (fun w hh => sdigits_any (u := valM (l.take k)) (by omega) w)) rfl (fun _ _ => ?_)
            have hka : l.take k = l := take_all (by omega); have hdA : l.all digitB = true := (by rw [hka] at hd; exact hd); have hvA : valM (l.take k) = valM l := (by rw [hka])
            refine G.v (rv_move rfl) rfl ?_; refine G.v (rv_neqS rfl rfl) rfl ?_; refine G.done (G.thenN ?_); refine G.cond rfl (fun hc => ?_) (fun hc => ?_)
            · try exact Bool.noConfusion hc
              all_goals
               try replace hc := of_decide_eq_true hc
               try (exfalso; first | contradiction | omega)
               all_goals
                refine G.seq (G.region (G.v (rv_assign rfl) rfl (G.v (rv_assign rfl) rfl (G.done (G.thenN (G.ret (G.thenR ?_)))))))
                first | exact G.retVL rfl (.cons (.tmp rfl) (.cons (.tmp rfl) .nil)) (by rw [number_len (by first | omega | (have hq := of_decide_eq_true hg; omega))]) | exact G.retVL rfl (.cons (.tmp rfl) (.cons (.tmp rfl) .nil)) (by rw [number_dig hb (by rw [digitB, Bool.and_eq_false_iff, decide_eq_false_iff_not, decide_eq_false_iff_not]; first | omega | (have hq := of_decide_eq_true hg; omega))]) | exact G.retVL rfl (.cons (.tmp rfl) (.cons (.tmp rfl) .nil)) (by rw [number_all hl1 hl6 hdA, if_neg (by rw [← hvA]; exact hc)]) | exact G.retVL rfl (.cons (.tmp rfl) (.cons (.tmp rfl) .nil)) (by rw [number_all hl1 hl6 hdA, if_pos (by rw [← hvA]; simpa using hc), ← hvA])
            · try exact Bool.noConfusion hc
              all_goals
               try replace hc := of_decide_eq_false hc
               try (exfalso; first | contradiction | omega)
               all_goals
                refine G.skip (G.thenN (G.seq (G.region (G.v (rv_move rfl) rfl (G.v (rv_assign rfl) rfl (G.v (rv_assign rfl) rfl (G.done (G.thenN (G.ret ?_)))))))))
                first | exact G.retVL rfl (.cons (.tmp rfl) (.cons (.tmp rfl) .nil)) (by rw [number_len (by first | omega | (have hq := of_decide_eq_true hg; omega))]) | exact G.retVL rfl (.cons (.tmp rfl) (.cons (.tmp rfl) .nil)) (by rw [number_dig hb (by rw [digitB, Bool.and_eq_false_iff, decide_eq_false_iff_not, decide_eq_false_iff_not]; first | omega | (have hq := of_decide_eq_true hg; omega))]) | exact G.retVL rfl (.cons (.tmp rfl) (.cons (.tmp rfl) .nil)) (by rw [number_all hl1 hl6 hdA, if_neg (by rw [← hvA]; exact hc)]) | exact G.retVL rfl (.cons (.tmp rfl) (.cons (.tmp rfl) .nil)) (by rw [number_all hl1 hl6 hdA, if_pos (by rw [← hvA]; simpa using hc), ← hvA])
theorem parts_any {b : UInt8} {l : List UInt8} (hl : l.length ≤ 1048576) (w : World) : Fn Tryd.prog 33 [sv l, .int .u8 (b.toNat : Int)] w (fun v : Value => v.oneCell' = true) (fun v => v) (fun v => [.row v 9 1 ((partsM b l).map scell)]) := by
  refine Fn.of (n := 35) Tryd.func33 rfl rfl ?_; refine G.seq (G.region (G.v (rv_assign rfl) rfl (G.done (G.thenN (G.seq (G.region ?_)))))); refine G.op (og_lit rfl .nil rfl rfl rfl rfl rfl rfl) rfl (fun vl _ => ?_); refine G.know (fun w hw => (Rd.owned 0 rfl (v := vl) w hw).one_) (fun hovl => ?_); refine G.v (rv_assign rfl) rfl (G.done (G.thenN (G.seq (G.region (G.v (rv_assign rfl) rfl (G.done (G.thenN (G.seq (G.seq (G.region (G.v (rv_assign rfl) rfl ?_))))))))))); refine G.done (G.thenN (G.block ?_))
  -- loop 0: turned [5, 6, 7], kept [0, 1]
  (first | refine G.frontR0 vl rfl ?_ | refine G.frontR1 vl rfl ?_ | refine G.frontR2 vl rfl ?_ | refine G.frontR3 vl rfl ?_ | refine G.frontR4 vl rfl ?_ | refine G.frontR5 vl rfl ?_ | refine G.frontR6 vl rfl ?_ | refine G.frontR7 vl rfl ?_ | refine G.frontR8 vl rfl ?_ | refine G.frontR9 vl rfl ?_ | refine G.frontR10 vl rfl ?_ | refine G.frontR11 vl rfl ?_ | refine G.frontR12 vl rfl ?_ | refine G.frontR13 vl rfl ?_)
  refine G.loopK (ι := Nat × Nat × Value × List (List UInt8)) (ks := [0, 1]) (fun x => [(5, x.2.2.1), (6, .int .i64 (x.2.1 : Int)), (7, .int .i64 (x.1 : Int))]) (fun x => [.row x.2.2.1 9 1 (x.2.2.2.map scell)]) (fun x => (x.2.1 ≤ x.1 ∧ x.1 ≤ l.length ∧ x.2.2.2.length ≤ x.1) ∧ partsM b l = x.2.2.2 ++ partsM b (l.drop x.2.1) ∧ b ∉ (l.drop x.2.1).take (x.1 - x.2.1) ∧ x.2.2.1.oneCell' = true) (fun x => l.length - x.1) (0, 0, vl, []) (.cons rfl (.cons rfl (.nil))) rfl ?_ ?_ ?_
  · exact ⟨⟨Nat.le_refl _, Nat.zero_le _, Nat.le_refl _⟩, rfl, by simp, hovl⟩
  · exact ⟨rfl, rfl, rfl, trivial⟩
  rintro ⟨i, a, v, out⟩ ⟨⟨hai, hi, hol⟩, hpm, hno, hov⟩
  dsimp only at hai hi hol hpm hno hov ⊢
  have holm : (out.map scell).length = out.length := List.length_map ..
  by_cases hlt : i < l.length
  case' pos => (obtain ⟨c, hcb⟩ := get_of_lt hlt)
  all_goals
   refine G.seq (G.seq (G.region (G.v (rv_move rfl) rfl (G.v (rv_move rfl) rfl ?_)))); refine G.v (rv_lenS rfl) rfl ?_; refine G.v (rv_lss rfl rfl) rfl (G.done (G.thenN ?_)); refine G.cond rfl (fun hc => ?_) (fun hc => ?_)
   · try exact Bool.noConfusion hc
     all_goals
      try replace hc := of_decide_eq_true hc
      try (exfalso; first | contradiction | omega)
      all_goals
       refine G.skip (G.thenN (G.seq (G.block (G.seq (G.region (G.v (rv_move rfl) rfl (G.v (rv_move rfl) rfl ?_))))))); refine G.v (rv_idxS rfl rfl (by assumption)) rfl ?_; refine G.v (rv_move rfl) rfl (G.v (rv_eql rfl rfl) rfl (G.done (G.thenN ?_))); refine G.cond rfl (fun hc => ?_) (fun hc => ?_)
       · try exact Bool.noConfusion hc
         all_goals
          try replace hc := of_decide_eq_true hc
          try (exfalso; first | contradiction | omega)
          all_goals
           have hcc : c = b := UInt8.toNat_inj.1 (by omega); have hcb2 : l[i]? = some b := (by rw [← hcc]; exact hcb); have hst := parts_step hai hcb2 hno
           all_goals
            refine G.seq (G.region (G.v (rv_move rfl) rfl (G.v (rv_move rfl) rfl (G.v (rv_move rfl) rfl (G.v (rv_move rfl) rfl ?_))))); refine G.v (rv_slcS rfl rfl rfl (by omega) (by omega)) rfl ?_; refine G.op (og_lit rfl (.cons rfl .nil) rfl rfl rfl rfl rfl rfl) rfl (fun vx _ => ?_)
            (first | refine G.op (og_app0 rfl rfl rfl (by first | exact Rd.stays (by assumption) | exact Rd.owned 0 rfl | exact Rd.owned 1 rfl | exact Rd.owned 2 rfl | exact Rd.owned 3 rfl) rfl rfl (by first | (simp; done) | (simp; omega)) (by first | (simp; done) | (simp; omega))) rfl (fun va _ => ?_) | refine G.op (og_app1 rfl rfl rfl (by first | exact Rd.stays (by assumption) | exact Rd.owned 0 rfl | exact Rd.owned 1 rfl | exact Rd.owned 2 rfl | exact Rd.owned 3 rfl) rfl rfl (by first | (simp; done) | (simp; omega)) (by first | (simp; done) | (simp; omega))) rfl (fun va _ => ?_) | refine G.op (og_app2 rfl rfl rfl (by first | exact Rd.stays (by assumption) | exact Rd.owned 0 rfl | exact Rd.owned 1 rfl | exact Rd.owned 2 rfl | exact Rd.owned 3 rfl) rfl rfl (by first | (simp; done) | (simp; omega)) (by first | (simp; done) | (simp; omega))) rfl (fun va _ => ?_) | refine G.op (og_app3 rfl rfl rfl (by first | exact Rd.stays (by assumption) | exact Rd.owned 0 rfl | exact Rd.owned 1 rfl | exact Rd.owned 2 rfl | exact Rd.owned 3 rfl) rfl rfl (by first | (simp; done) | (simp; omega)) (by first | (simp; done) | (simp; omega))) rfl (fun va _ => ?_))
            refine G.know (fun w hw => by first | exact (Rd.owned 0 rfl (v := va) w hw).one_ | exact (Rd.owned 1 rfl (v := va) w hw).one_ | exact (Rd.owned 2 rfl (v := va) w hw).one_) (fun hova => ?_); refine G.v (rv_assign rfl) rfl (G.done (G.thenN (G.region (G.v (rv_move rfl) rfl ?_))))
            (first | refine G.v (rv_incr rfl rfl (by omega)) rfl ?_ | refine G.v (rv_addB rfl rfl (by omega) (by omega)) rfl ?_)
            refine G.v (rv_assign rfl) rfl (G.done (G.inN (G.thenN (G.region (G.v (rv_move rfl) rfl ?_)))))
            (first | refine G.v (rv_incr rfl rfl (by omega)) rfl ?_ | refine G.v (rv_addB rfl rfl (by omega) (by omega)) rfl ?_)
            refine G.v (rv_assign rfl) rfl (G.done ?_)
            first | (first | refine G.frontR0 va rfl ?_ | refine G.frontR1 va rfl ?_ | refine G.frontR2 va rfl ?_ | refine G.frontR3 va rfl ?_ | refine G.frontR4 va rfl ?_ | refine G.frontR5 va rfl ?_ | refine G.frontR6 va rfl ?_ | refine G.frontR7 va rfl ?_ | refine G.frontR8 va rfl ?_ | refine G.frontR9 va rfl ?_ | refine G.frontR10 va rfl ?_ | refine G.frontR11 va rfl ?_ | refine G.frontR12 va rfl ?_ | refine G.frontR13 va rfl ?_) | (first | refine G.frontR0 v rfl ?_ | refine G.frontR1 v rfl ?_ | refine G.frontR2 v rfl ?_ | refine G.frontR3 v rfl ?_ | refine G.frontR4 v rfl ?_ | refine G.frontR5 v rfl ?_ | refine G.frontR6 v rfl ?_ | refine G.frontR7 v rfl ?_ | refine G.frontR8 v rfl ?_ | refine G.frontR9 v rfl ?_ | refine G.frontR10 v rfl ?_ | refine G.frontR11 v rfl ?_ | refine G.frontR12 v rfl ?_ | refine G.frontR13 v rfl ?_)
            first | (refine G.keep1 1 rfl ?_; refine G.backK (i + 1, i + 1, va, out ++ [(l.take i).drop a]) 0 (by first | exact one_eq (congrArg (fun z => Ch.row va 9 1 z) (by rw [List.map_append]; rfl)) | exact one_eq rfl) (.cons rfl (.cons rfl (.nil))) ?_ ?_ ?_) | (refine G.keep1 1 rfl ?_; refine G.backK (i + 1, a, v, out) 0 (by first | exact one_eq (congrArg (fun z => Ch.row va 9 1 z) (by rw [List.map_append]; rfl)) | exact one_eq rfl) (.cons rfl (.cons rfl (.nil))) ?_ ?_ ?_) | (refine G.keep1 0 rfl ?_; refine G.backK (i + 1, i + 1, va, out ++ [(l.take i).drop a]) 0 (by first | exact one_eq (congrArg (fun z => Ch.row va 9 1 z) (by rw [List.map_append]; rfl)) | exact one_eq rfl) (.cons rfl (.cons rfl (.nil))) ?_ ?_ ?_) | (refine G.keep1 0 rfl ?_; refine G.backK (i + 1, a, v, out) 0 (by first | exact one_eq (congrArg (fun z => Ch.row va 9 1 z) (by rw [List.map_append]; rfl)) | exact one_eq rfl) (.cons rfl (.cons rfl (.nil))) ?_ ?_ ?_)
            · exact ⟨rfl, rfl, rfl, trivial⟩
            · first | exact ⟨⟨Nat.le_refl _, hlt, by simp; omega⟩, by rw [hpm, hst]; simp, by simp, hova⟩ | exact ⟨⟨by dsimp only; omega, hlt, by dsimp only; omega⟩, hpm, hsn, hov⟩
            · dsimp only; omega
       · try exact Bool.noConfusion hc
         all_goals
          try replace hc := of_decide_eq_false hc
          try (exfalso; first | contradiction | omega)
          all_goals
           have hcc : ¬ c = b := (fun e => by subst e; omega); have hsn := seg_next hai hcb hcc hno
           all_goals
            refine G.skip (G.inN (G.thenN (G.region (G.v (rv_move rfl) rfl ?_))))
            (first | refine G.v (rv_incr rfl rfl (by omega)) rfl ?_ | refine G.v (rv_addB rfl rfl (by omega) (by omega)) rfl ?_)
            refine G.v (rv_assign rfl) rfl (G.done ?_)
            first | (first | refine G.frontR0 va rfl ?_ | refine G.frontR1 va rfl ?_ | refine G.frontR2 va rfl ?_ | refine G.frontR3 va rfl ?_ | refine G.frontR4 va rfl ?_ | refine G.frontR5 va rfl ?_ | refine G.frontR6 va rfl ?_ | refine G.frontR7 va rfl ?_ | refine G.frontR8 va rfl ?_ | refine G.frontR9 va rfl ?_ | refine G.frontR10 va rfl ?_ | refine G.frontR11 va rfl ?_ | refine G.frontR12 va rfl ?_ | refine G.frontR13 va rfl ?_) | (first | refine G.frontR0 v rfl ?_ | refine G.frontR1 v rfl ?_ | refine G.frontR2 v rfl ?_ | refine G.frontR3 v rfl ?_ | refine G.frontR4 v rfl ?_ | refine G.frontR5 v rfl ?_ | refine G.frontR6 v rfl ?_ | refine G.frontR7 v rfl ?_ | refine G.frontR8 v rfl ?_ | refine G.frontR9 v rfl ?_ | refine G.frontR10 v rfl ?_ | refine G.frontR11 v rfl ?_ | refine G.frontR12 v rfl ?_ | refine G.frontR13 v rfl ?_)
            first | (refine G.keep1 1 rfl ?_; refine G.backK (i + 1, i + 1, va, out ++ [(l.take i).drop a]) 0 (by first | exact one_eq (congrArg (fun z => Ch.row va 9 1 z) (by rw [List.map_append]; rfl)) | exact one_eq rfl) (.cons rfl (.cons rfl (.nil))) ?_ ?_ ?_) | (refine G.keep1 1 rfl ?_; refine G.backK (i + 1, a, v, out) 0 (by first | exact one_eq (congrArg (fun z => Ch.row va 9 1 z) (by rw [List.map_append]; rfl)) | exact one_eq rfl) (.cons rfl (.cons rfl (.nil))) ?_ ?_ ?_) | (refine G.keep1 0 rfl ?_; refine G.backK (i + 1, i + 1, va, out ++ [(l.take i).drop a]) 0 (by first | exact one_eq (congrArg (fun z => Ch.row va 9 1 z) (by rw [List.map_append]; rfl)) | exact one_eq rfl) (.cons rfl (.cons rfl (.nil))) ?_ ?_ ?_) | (refine G.keep1 0 rfl ?_; refine G.backK (i + 1, a, v, out) 0 (by first | exact one_eq (congrArg (fun z => Ch.row va 9 1 z) (by rw [List.map_append]; rfl)) | exact one_eq rfl) (.cons rfl (.cons rfl (.nil))) ?_ ?_ ?_)
            · exact ⟨rfl, rfl, rfl, trivial⟩
            · first | exact ⟨⟨Nat.le_refl _, hlt, by simp; omega⟩, by rw [hpm, hst]; simp, by simp, hova⟩ | exact ⟨⟨by dsimp only; omega, hlt, by dsimp only; omega⟩, hpm, hsn, hov⟩
            · dsimp only; omega
   · try exact Bool.noConfusion hc
     all_goals
      try replace hc := of_decide_eq_false hc
      try (exfalso; first | contradiction | omega)
      all_goals
       obtain rfl : i = l.length := (by omega)
       all_goals
        refine G.exit (G.thenX (G.thenX (G.inX (G.thenN (G.seq (G.region (G.v (rv_move rfl) rfl (G.v (rv_move rfl) rfl (G.v (rv_move rfl) rfl ?_))))))))); refine G.v (rv_slcSL rfl rfl (by omega)) rfl ?_; refine G.op (og_lit rfl (.cons rfl .nil) rfl rfl rfl rfl rfl rfl) rfl (fun vx _ => ?_)
        (first | refine G.op (og_app0 rfl rfl rfl (by first | exact Rd.stays (by assumption) | exact Rd.owned 0 rfl | exact Rd.owned 1 rfl | exact Rd.owned 2 rfl | exact Rd.owned 3 rfl) rfl rfl (by first | (simp; done) | (simp; omega)) (by first | (simp; done) | (simp; omega))) rfl (fun va _ => ?_) | refine G.op (og_app1 rfl rfl rfl (by first | exact Rd.stays (by assumption) | exact Rd.owned 0 rfl | exact Rd.owned 1 rfl | exact Rd.owned 2 rfl | exact Rd.owned 3 rfl) rfl rfl (by first | (simp; done) | (simp; omega)) (by first | (simp; done) | (simp; omega))) rfl (fun va _ => ?_) | refine G.op (og_app2 rfl rfl rfl (by first | exact Rd.stays (by assumption) | exact Rd.owned 0 rfl | exact Rd.owned 1 rfl | exact Rd.owned 2 rfl | exact Rd.owned 3 rfl) rfl rfl (by first | (simp; done) | (simp; omega)) (by first | (simp; done) | (simp; omega))) rfl (fun va _ => ?_) | refine G.op (og_app3 rfl rfl rfl (by first | exact Rd.stays (by assumption) | exact Rd.owned 0 rfl | exact Rd.owned 1 rfl | exact Rd.owned 2 rfl | exact Rd.owned 3 rfl) rfl rfl (by first | (simp; done) | (simp; omega)) (by first | (simp; done) | (simp; omega))) rfl (fun va _ => ?_))
        refine G.know (fun w hw => by first | exact (Rd.owned 0 rfl (v := va) w hw).one_ | exact (Rd.owned 1 rfl (v := va) w hw).one_ | exact (Rd.owned 2 rfl (v := va) w hw).one_) (fun hova => ?_); refine G.v (rv_assign rfl) rfl (G.done (G.thenN (G.ret ?_)))
        ((first | refine G.frontR0 va rfl ?_ | refine G.frontR1 va rfl ?_ | refine G.frontR2 va rfl ?_ | refine G.frontR3 va rfl ?_ | refine G.frontR4 va rfl ?_ | refine G.frontR5 va rfl ?_ | refine G.frontR6 va rfl ?_ | refine G.frontR7 va rfl ?_ | refine G.frontR8 va rfl ?_ | refine G.frontR9 va rfl ?_ | refine G.frontR10 va rfl ?_ | refine G.frontR11 va rfl ?_ | refine G.frontR12 va rfl ?_ | refine G.frontR13 va rfl ?_); exact G.retF va hova rfl rfl rfl (fun w hh => by rw [hpm, parts_last hno, List.map_append]; exact hh.sublist (by repeat (first | exact List.Sublist.refl _ | refine List.Sublist.cons_cons _ ?_ | refine List.Sublist.cons _ ?_))))
end Go.Proofs.YtnfokjlplbbbeaaDoor

/-
  The library's numerals in the logic of chunks; numbers read and told by the program.
-/
namespace Go.Proofs.YtnfokjlplbbbeaaDoor
open Go.RowKit Go.Lib
/-! ### What the library's variables hold -/
theorem var_stays {P : Program} {w0 w : World} {H : List Ch} {name : String} {cs : Array Value} (h : w0.var? P name = some cs) (hh : HeapOk w0 w H) : w.var? P name = some cs := by
  rw [World.var?] at h ⊢
  cases hg : P.globalNamed name with
  | none => rw [hg] at h; cases h
  | some g =>
    rw [hg] at h
    simp only [Option.bind_some] at h ⊢
    have hlt : g < w0.heap.size := by
      rcases Nat.lt_or_ge g w0.heap.size with h' | h'
      · exact h'
      · rw [Array.getElem?_eq_none h'] at h; cases h
    rw [hh.below.block g hlt]; exact h
def TabI (w : World) : Prop := Lib.TabIs Tryd.prog w "internal/strconv.uint64pow10" .u64 Lib.pow10Tab
def TabE (w : World) : Prop := (∃ tp p, w.var? Tryd.prog "strconv.ErrSyntax" = some #[.iface tp p]) ∧ ∃ tp p, w.var? Tryd.prog "strconv.ErrRange" = some #[.iface tp p]
theorem TabI.stays {w0 w : World} {H : List Ch} (h : TabI w0) (hh : HeapOk w0 w H) : TabI w := var_stays h hh
theorem TabE.stays {w0 w : World} {H : List Ch} (h : TabE w0) (hh : HeapOk w0 w H) : TabE w := by
  obtain ⟨⟨t1, p1, h1⟩, ⟨t2, p2, h2⟩⟩ := h
  exact ⟨⟨t1, p1, var_stays h1 hh⟩, ⟨t2, p2, var_stays h2 hh⟩⟩
theorem below_bytes (w : World) (e : TypeId) (s : ByteArray) : Below w.heap.size w (Lib.bytesWorld w e s) :=
  ⟨rfl, rfl, rfl, by rw [Lib.bytesWorld_size]; omega, fun k hk => Lib.bytesWorld_at_old w e s k hk⟩
theorem below_grow (w : World) (k : Nat) (os : Array Obj) : Below w.heap.size w (Go.Sort.grow (w.drewN k) os) :=
  ⟨rfl, rfl, rfl, by simp [Go.Sort.grow, World.drewN], fun j hj => by
    show (w.heap ++ os)[j]? = w.heap[j]?
    rw [Array.getElem?_append_left hj]⟩
theorem HeapOk.ofBelow {w w' : World} (h : Below w.heap.size w w') : HeapOk w w' [] := ⟨h, by simp, List.Pairwise.nil⟩
section
variable {P : Program} {n : Nat} {w0 : World} {fr : Fr} {H : List Ch} {x y : Operand} {t t' : TypeId}
/-- Whether an error is not nil. -/
def notNil : Value → Bool
  | .nilIface => false
  | _ => true
theorem run_neq_nil {ms : Array (String × TypeId)} {v : Value} (w : World) (hT : P.underlying t = some (.interface ms)) (hv : v = .nilIface ∨ ∃ tp p, v = .iface tp p) : (binOp .neq t v .nilIface).run P w = .ok (.bool (notNil v)) w := by
  rcases hv with rfl | ⟨tp, p, rfl⟩
  · have h : ∀ d : Nat, (Op.equalIn (d + 1) t .nilIface .nilIface).run P w = .ok true w := fun d => by simp [Op.equalIn, run_underlying hT]
    simp only [binOp]
    simp [Op.equal, Op.maxDepth, h 9999, notNil]
  · have h : ∀ d : Nat, (Op.equalIn (d + 1) t (.iface tp p) .nilIface).run P w = .ok false w := fun d => by simp [Op.equalIn, run_underlying hT]
    simp only [binOp]
    simp [Op.equal, Op.maxDepth, h 9999, notNil]
theorem rv_neqI {ms : Array (String × TypeId)} {v : Value} (hT : P.underlying t = some (.interface ms)) (hx : opv fr x = some v) (hv : v = .nilIface ∨ ∃ tp p, v = .iface tp p) : RunsV P n w0 fr H (.binOp .neq t x (.const .nilIface) t') (.bool (notNil v)) := fun a w hr _ _ _ _ _ _ => by
  have e2 : a.eval (.const .nilIface) = .nilIface := rfl
  have e : eqGuard .neq t x (.const .nilIface) v .nilIface = pure () := by rcases hv with rfl | ⟨tp, p, rfl⟩ <;> first | rfl | (cases x <;> rfl)
  simp only [execOp, hr.opv hx, e2, e]
  simp [run_neq_nil w hT hv]
end
theorem itoa_any {z : Int} (h0 : -9223372036854775808 ≤ z) (h1 : z ≤ 9223372036854775807) (w : World) (ht : TabI w) : FnV Tryd.prog 56 [.int .i64 z] w (sv (Lib.itoa z)) := by
  refine Calls.mono (Go.Proofs.Tryd.strconv_Itoa z h0 h1 w ht) ?_
  rintro e w' ⟨rfl, k, os, rfl⟩
  exact ⟨rfl, HeapOk.ofBelow (below_grow w k os)⟩
theorem atoi_any {l : List UInt8} (hl : l.length ≤ 1048576) (w : World) (ht : TabE w) : Fn Tryd.prog 57 [sv l] w (fun x : Int × Value => ((x.2 = .nilIface ∧ Lib.atoiAll l = .ok x.1) ∨ ((∃ tp p, x.2 = .iface tp p) ∧ ∀ v, Lib.atoiAll l ≠ .ok v)) ∧ -9223372036854775808 ≤ x.1 ∧ x.1 ≤ 9223372036854775807) (fun x => .tuple #[.int .i64 x.1, x.2]) (fun _ => []) := by
  have e1 : (ByteArray.mk l.toArray).data.toList = l := by simp
  have e2 : (ByteArray.mk l.toArray).size = l.length := sv_size l
  obtain ⟨⟨t1, p1, g1⟩, ⟨t2, p2, g2⟩⟩ := ht
  cases ha : Lib.atoiAll l with
  | ok v =>
    refine Calls.mono (Go.Proofs.Tryd.strconv_Atoi_ok ⟨l.toArray⟩ (by omega) v (by rw [e1]; exact ha) w) ?_
    rintro e w' ⟨rfl, hw⟩
    refine ⟨(v, .nilIface), ⟨.inl ⟨rfl, rfl⟩, Lib.atoiAll_bounds ha⟩, rfl, ?_⟩
    rcases hw with rfl | ⟨t, rfl⟩
    · exact HeapOk.refl _
    · exact HeapOk.ofBelow (below_bytes _ _ _)
  | range =>
    refine Calls.mono (Go.Proofs.Tryd.strconv_Atoi_range_var ⟨l.toArray⟩ (by omega) (by rw [e1]; exact ha) t2 p2 w g2) ?_
    rintro e w' ⟨N, rfl, _, _, hb⟩
    exact ⟨(_, _), ⟨.inr ⟨⟨_, _, rfl⟩, fun v hv => by cases hv⟩, by have := Lib.atoiSat_bounds l; rw [e1]; exact this⟩, rfl, HeapOk.ofBelow hb⟩
  | _ =>
    refine Calls.mono (Go.Proofs.Tryd.strconv_Atoi_syntax_var ⟨l.toArray⟩ (by omega) (by rw [e1]; exact ha) t1 p1 w g1) ?_
    rintro e w' ⟨N, rfl, _, _, hb⟩
    exact ⟨(0, _), ⟨.inr ⟨⟨_, _, rfl⟩, fun v hv => by cases hv⟩, (by decide : (-9223372036854775808 : Int) ≤ 0), (by decide : (0 : Int) ≤ 9223372036854775807)⟩, rfl, HeapOk.ofBelow hb⟩
attribute [local irreducible] Go.wpList Go.Code.wp Go.Exit.then Go.Exit.inBlock Go.bodyPost Go.Calls pE pB G RunsV FnV Fn FnM
set_option maxRecDepth 100000
set_option maxHeartbeats 4000000
theorem digits_any {z : Int} (h0 : -9223372036854775808 ≤ z) (h1 : z ≤ 9223372036854775807) (w : World) (ht : TabI w) : FnV Tryd.prog 51 [.int .i64 z] w (sv (Lib.itoa z)) := by
  refine FnV.of (n := 5) Tryd.func51 rfl rfl ?_; refine G.seq (G.region (G.v (rv_assign rfl) rfl (G.done (G.thenN (G.seq (G.region (G.v (rv_move rfl) rfl ?_))))))); refine G.op (og_callV rfl rfl (fun w hh => itoa_any h0 h1 w (ht.stays hh))) rfl (fun _ _ => ?_); refine G.v (rv_assign rfl) rfl (G.done (G.thenN (G.ret ?_)))
  exact G.retFV rfl rfl rfl
def NumT (l : List UInt8) : Value := .tuple #[.int .i64 (numberM l).1, .bool (numberM l).2]
section
variable {l : List UInt8} {z : Int} {ev : Value} (hnn : (notNil ev = false → Lib.atoiAll l = .ok z) ∧ (notNil ev = true → ∀ v, Lib.atoiAll l ≠ .ok v))
include hnn
theorem num_a (h : notNil ev = true) : Value.tuple #[.int .i64 0, .bool false] = NumT l := by rw [NumT, number_of_no (hnn.2 h)]
theorem num_b (h : notNil ev = false) (h2 : (!inB z 0 999999) = true) : Value.tuple #[.int .i64 0, .bool false] = NumT l := by
  rw [NumT, number_of_ok (hnn.1 h), if_neg]
  rintro ⟨k1, k2, _⟩
  simp [inB, k1, k2] at h2
theorem num_c (h : notNil ev = false) (h2 : ¬ Lib.itoa z = l) : Value.tuple #[.int .i64 0, .bool false] = NumT l := by
  rw [NumT, number_of_ok (hnn.1 h), if_neg (fun k => h2 k.2.2)]
theorem num_d (h : notNil ev = false) (h2 : (!inB z 0 999999) = false) (h3 : ¬ ¬ Lib.itoa z = l) : Value.tuple #[.int .i64 z, .bool true] = NumT l := by
  rw [NumT, number_of_ok (hnn.1 h), if_pos]
  simp only [inB, Bool.not_eq_false', Bool.and_eq_true, decide_eq_true_eq] at h2
  exact ⟨h2.1, h2.2, Decidable.not_not.1 h3⟩
end
theorem number_any {l : List UInt8} (hl : l.length ≤ 1048576) (w : World) (ht : TabI w) (hte : TabE w) : FnV Tryd.prog 52 [sv l] w (.tuple #[.int .i64 (numberM l).1, .bool (numberM l).2]) := by
  refine FnV.of (n := 25) Tryd.func52 rfl rfl ?_; refine G.seq (G.region (G.v (rv_assign rfl) rfl (G.v (rv_assign rfl) rfl (G.done (G.thenN (G.seq (G.region (G.v (rv_move rfl) rfl ?_))))))))
  (refine G.op (og_callF0 rfl rfl (fun w hh => atoi_any hl w (hte.stays hh))) rfl ?_; rintro ⟨z, ev⟩ ⟨hx, hz0, hz1⟩; try dsimp only)
  refine G.v (rv_move rfl) rfl ?_
  have hev : ev = .nilIface ∨ ∃ tp p, ev = .iface tp p := (by rcases hx with hx | hx; exact .inl hx.1; exact .inr hx.1); have hnn : (notNil ev = false → Lib.atoiAll l = .ok z) ∧ (notNil ev = true → ∀ v, Lib.atoiAll l ≠ .ok v) := (by rcases hx with ⟨rfl, hx⟩ | ⟨⟨tp, p, rfl⟩, hx⟩; exact ⟨fun _ => hx, fun h => Bool.noConfusion h⟩; exact ⟨fun h => Bool.noConfusion h, fun _ => hx⟩); clear hx
  refine G.v (rv_extract rfl rfl) rfl (G.v (rv_extract rfl rfl) rfl (G.v (rv_assign rfl) rfl (G.v (rv_assign rfl) rfl (G.done (G.thenN (G.seq (G.seq (G.region (G.v (rv_move rfl) rfl ?_))))))))); refine G.v (rv_neqI Tryd.underlying82 rfl hev) rfl ?_; refine G.v (rv_move rfl) rfl ?_
  all_goals (((with_reducible refine G.gP rfl rfl (fun hg => ?_) (fun hg => ?_)) <;> (try exact Bool.noConfusion hg) <;> (first | (refine G.gY rfl rfl ?_; refine G.v (rv_move rfl) rfl ?_) | refine G.gN rfl rfl rfl ?_ | refine G.gU rfl rfl rfl ?_)))
  all_goals ((first | (refine G.gY rfl rfl ?_; refine G.op (og_callV rfl rfl (fun w _ => in_any _ _ _ w)) rfl (fun _ _ => ?_)) | refine G.gN rfl rfl rfl ?_ | refine G.gU rfl rfl rfl ?_))
  all_goals ((first | (refine G.gY rfl rfl ?_; refine G.v (rv_not rfl) rfl ?_) | refine G.gN rfl rfl rfl ?_ | refine G.gU rfl rfl rfl ?_))
  all_goals ((first | refine G.v (rv_pickT rfl rfl) rfl ?_ | refine G.v (rv_pickF rfl rfl) rfl ?_))
  all_goals (refine G.v (rv_move rfl) rfl ?_)
  all_goals (((with_reducible refine G.gP rfl rfl (fun hg => ?_) (fun hg => ?_)) <;> (try exact Bool.noConfusion hg) <;> (first | (refine G.gY rfl rfl ?_; refine G.v (rv_move rfl) rfl ?_) | refine G.gN rfl rfl rfl ?_ | refine G.gU rfl rfl rfl ?_)))
  all_goals ((first | (refine G.gY rfl rfl ?_; refine G.op (og_callV rfl rfl (fun w hh => digits_any (z := z) hz0 hz1 w (ht.stays hh))) rfl (fun _ _ => ?_)) | refine G.gN rfl rfl rfl ?_ | refine G.gU rfl rfl rfl ?_))
  all_goals ((first | (refine G.gY rfl rfl ?_; refine G.v (rv_move rfl) rfl ?_) | refine G.gN rfl rfl rfl ?_ | refine G.gU rfl rfl rfl ?_))
  all_goals ((first | (refine G.gY rfl rfl ?_; refine G.v (rv_neqS rfl rfl) rfl ?_) | refine G.gN rfl rfl rfl ?_ | refine G.gU rfl rfl rfl ?_))
  all_goals ((first | refine G.v (rv_pickT rfl rfl) rfl ?_ | refine G.v (rv_pickF rfl rfl) rfl ?_))
  all_goals
   refine G.done (G.thenN ?_); refine G.cond rfl (fun hc => ?_) (fun hc => ?_)
   · try exact Bool.noConfusion hc
     all_goals
      try replace hc := of_decide_eq_true hc
      try (exfalso; first | contradiction | omega)
      all_goals
       refine G.seq (G.region (G.v (rv_assign rfl) rfl (G.v (rv_assign rfl) rfl (G.done (G.thenN (G.ret (G.thenR ?_)))))))
       first | exact G.retVL rfl (.cons (.tmp rfl) (.cons (.tmp rfl) .nil)) (num_a hnn (by assumption)) | exact G.retVL rfl (.cons (.tmp rfl) (.cons (.tmp rfl) .nil)) (num_b hnn (by assumption) (by assumption)) | exact G.retVL rfl (.cons (.tmp rfl) (.cons (.tmp rfl) .nil)) (num_c hnn (by assumption) (by assumption)) | exact G.retVL rfl (.cons (.tmp rfl) (.cons (.tmp rfl) .nil)) (num_d hnn (by assumption) (by assumption) (by assumption))
   · try exact Bool.noConfusion hc
     all_goals
      try replace hc := of_decide_eq_false hc
      try (exfalso; first | contradiction | omega)
      all_goals
       refine G.skip (G.thenN (G.seq (G.region (G.v (rv_move rfl) rfl (G.v (rv_assign rfl) rfl (G.v (rv_assign rfl) rfl (G.done (G.thenN (G.ret ?_)))))))))
       first | exact G.retVL rfl (.cons (.tmp rfl) (.cons (.tmp rfl) .nil)) (num_a hnn (by assumption)) | exact G.retVL rfl (.cons (.tmp rfl) (.cons (.tmp rfl) .nil)) (num_b hnn (by assumption) (by assumption)) | exact G.retVL rfl (.cons (.tmp rfl) (.cons (.tmp rfl) .nil)) (num_c hnn (by assumption) (by assumption)) | exact G.retVL rfl (.cons (.tmp rfl) (.cons (.tmp rfl) .nil)) (num_d hnn (by assumption) (by assumption) (by assumption))
end Go.Proofs.YtnfokjlplbbbeaaDoor

/-
  The text of an order, and what is read of it.
-/
namespace Go.Proofs.YtnfokjlplbbbeaaDoor
open Go.Lib
/-- The numbers of texts, if each is one. -/
def numsM : List (List UInt8) → Option (List Int)
  | [] => some []
  | p :: ps => if (numberM p).2 then (numsM ps).map ((numberM p).1 :: ·) else none
theorem nums_len : ∀ {ps : List (List UInt8)} {ns : List Int}, numsM ps = some ns → ns.length = ps.length
  | [], ns, h => by rw [numsM] at h; rw [← Option.some.inj h]; rfl
  | p :: ps, ns, h => by
    rw [numsM] at h
    split at h
    · obtain ⟨ms, hm, rfl⟩ := Option.map_eq_some_iff.1 h
      rw [List.length_cons, List.length_cons, nums_len hm]
    · cases h
/-- A line's numbers: a word, and just so many numbers behind it. -/
def wordsM (w : List UInt8) (k : Nat) (l : List UInt8) : Option (List Int) := match partsM 32 l with
  | p :: ps => if p = w ∧ ps.length = k then numsM ps else none
  | [] => none
theorem words_len {w l : List UInt8} {k : Nat} {ns : List Int} (h : wordsM w k l = some ns) : ns.length = k := by
  rw [wordsM] at h
  split at h
  · split at h
    · rename_i hh; rw [nums_len h, hh.2]
    · cases h
  · cases h
/-- A line of a word and numbers. -/
def lineT (w : List UInt8) (ns : List Int) : List UInt8 := joinM 32 (w :: ns.map itoa)
def okN (n : Int) : Prop := 0 ≤ n ∧ n ≤ 999999
/-! ### The words -/
abbrev wWayF : List UInt8 := [119, 97, 121, 32, 102, 105, 114, 115, 116]
abbrev wWayN : List UInt8 := [119, 97, 121, 32, 110, 101, 120, 116]
abbrev wPallet : List UInt8 := [112, 97, 108, 108, 101, 116]
abbrev wClasses : List UInt8 := [99, 108, 97, 115, 115, 101, 115]
abbrev wWith : List UInt8 := [119, 105, 116, 104]
abbrev wType : List UInt8 := [116, 121, 112, 101]
abbrev wMaster : List UInt8 := [109, 97, 115, 116, 101, 114]
abbrev wItem : List UInt8 := [105, 116, 101, 109]
/-! ### The numbers of a line, put into an order -/
def at0 (ns : List Int) (i : Nat) : Int := ns.getD i 0
def putPallet (r : ReqM) (n : List Int) : ReqM := { r with pal := ⟨at0 n 0, at0 n 1, at0 n 2, at0 n 3⟩ }
def putClasses (r : ReqM) (n : List Int) : ReqM := { r with classes := at0 n 0 }
def putWith (r : ReqM) (n : List Int) : ReqM := { r with pairs := r.pairs ++ [⟨at0 n 0, at0 n 1⟩] }
def putType (r : ReqM) (n : List Int) : ReqM := { r with types := r.types ++ [⟨at0 n 0, at0 n 1, at0 n 2, at0 n 3, at0 n 4, at0 n 5, at0 n 6⟩] }
def putMaster (r : ReqM) (n : List Int) : ReqM := { r with master := at0 n 0 }
def putItem (r : ReqM) (n : List Int) : ReqM := { r with items := r.items ++ [⟨at0 n 0, at0 n 1, at0 n 2, at0 n 3, at0 n 4, at0 n 5, at0 n 6⟩] }
/-- What a line is, and the order behind it. -/
def putLineM (r : ReqM) (l : List UInt8) : ReqM × Int :=
  if l = wWayF then ({ r with way := 0 }, 0) else if l = wWayN then ({ r with way := 1 }, 0) else
  match wordsM wPallet 4 l with
  | some n => (putPallet r n, 1)
  | none => match wordsM wClasses 1 l with
    | some n => (putClasses r n, 2)
    | none => match wordsM wWith 2 l with
      | some n => (putWith r n, 3)
      | none => match wordsM wType 7 l with
        | some n => (putType r n, 4)
        | none => match wordsM wMaster 1 l with
          | some n => (putMaster r n, 5)
          | none => match wordsM wItem 7 l with
            | some n => (putItem r n, 6)
            | none => (r, -1)
def mayM (last k : Int) : Bool :=
  if k = 0 ∨ k = 1 ∨ k = 2 then decide (last = k - 1) else if k = 3 then decide (last = 2) || decide (last = 3)
  else if k = 4 ∨ k = 5 then decide (2 ≤ last) && decide (last ≤ 4) else if k = 6 then decide (last = 5) || decide (last = 6) else false
/-- The lines of an order, one behind the other. -/
def runM (r : ReqM) (last : Int) : List (List UInt8) → Option ReqM
  | [] => if last < 5 then none else some r
  | l :: ls => if mayM last (putLineM r l).2 then runM (putLineM r l).1 (putLineM r l).2 ls else none
def reqZ : ReqM := ⟨0, ⟨0, 0, 0, 0⟩, 0, [], [], 0, []⟩
/-- What is read of a text; none: it is no order's. -/
def readM (s : List UInt8) : Option ReqM :=
  let ls := partsM 10 s
  if ls.length - 1 ≤ 60 ∧ ls.getLast? = some [] then runM reqZ (-1) (ls.take (ls.length - 1)) else none
/-! ### The reference's way -/
def goItems (r : ReqM) : List (List UInt8) → Option ReqM
  | [] => some r
  | l :: ls => match wordsM wItem 7 l with
    | some n => goItems (putItem r n) ls
    | none => none
def goMaster (r : ReqM) : List (List UInt8) → Option ReqM
  | [] => none
  | l :: ls => match wordsM wMaster 1 l with
    | some n => goItems (putMaster r n) ls
    | none => none
def goTypes (r : ReqM) : List (List UInt8) → Option ReqM
  | [] => none
  | l :: ls => match wordsM wType 7 l with
    | some n => goTypes (putType r n) ls
    | none => goMaster r (l :: ls)
def goWith (r : ReqM) : List (List UInt8) → Option ReqM
  | [] => none
  | l :: ls => match wordsM wWith 2 l with
    | some n => goWith (putWith r n) ls
    | none => goTypes r (l :: ls)
def goClasses (r : ReqM) : List (List UInt8) → Option ReqM
  | [] => none
  | l :: ls => match wordsM wClasses 1 l with
    | some n => goWith (putClasses r n) ls
    | none => none
def goPallet (r : ReqM) : List (List UInt8) → Option ReqM
  | [] => none
  | l :: ls => match wordsM wPallet 4 l with
    | some n => goClasses (putPallet r n) ls
    | none => none
def goWay : List (List UInt8) → Option ReqM
  | [] => none
  | l :: ls => if l = wWayF then goPallet reqZ ls else if l = wWayN then goPallet { reqZ with way := 1 } ls else none
/-- What kind a line is, by what its words are. -/
inductive LineIs (r : ReqM) (l : List UInt8) : ReqM → Int → Prop where
  | wayF (h : l = wWayF) : LineIs r l { r with way := 0 } 0
  | wayN (h : l = wWayN) : LineIs r l { r with way := 1 } 0
  | pallet {n : List Int} (h : wordsM wPallet 4 l = some n) : LineIs r l (putPallet r n) 1
  | classes {n : List Int} (h : wordsM wClasses 1 l = some n) : LineIs r l (putClasses r n) 2
  | «with» {n : List Int} (h : wordsM wWith 2 l = some n) : LineIs r l (putWith r n) 3
  | type {n : List Int} (h : wordsM wType 7 l = some n) : LineIs r l (putType r n) 4
  | master {n : List Int} (h : wordsM wMaster 1 l = some n) : LineIs r l (putMaster r n) 5
  | item {n : List Int} (h : wordsM wItem 7 l = some n) : LineIs r l (putItem r n) 6
  | no (h0 : l ≠ wWayF) (h9 : l ≠ wWayN) (h1 : wordsM wPallet 4 l = none) (h2 : wordsM wClasses 1 l = none) (h3 : wordsM wWith 2 l = none) (h4 : wordsM wType 7 l = none) (h5 : wordsM wMaster 1 l = none) (h6 : wordsM wItem 7 l = none) : LineIs r l r (-1)
end Go.Proofs.YtnfokjlplbbbeaaDoor

/-
  Plans that are right.
-/
namespace Go.Proofs.YtnfokjlplbbbeaaDoor
open Go.RowKit
attribute [local irreducible] Go.wpList Go.Code.wp Go.Exit.then Go.Exit.inBlock Go.bodyPost Go.Calls pE pB G RunsV FnV Fn FnM
set_option maxRecDepth 100000

/-- The numbers of a list go up, and are in bounds: at one place. -/
def upAt (l : List Int) (i : Nat) : Bool := match l[i]? with
  | none => true
  | some u => inB u 0 999 && (match i with | 0 => true | j + 1 => match l[j]? with | none => true | some v => decide (v < u))
def upM (l : List Int) : Bool := decide (l.length ≤ 100) && (List.range l.length).all (upAt l)
theorem range_next {f : Nat → Bool} {k : Nat} (h : (List.range k).all f = true) (hk : f k = true) : (List.range (k + 1)).all f = true := by
  rw [List.range_succ, List.all_append, h]; simp [hk]
theorem range_noP {f : Nat → Bool} {k n : Nat} (h : k < n) (hk : f k = false) : (List.range n).all f = false := by
  rw [Bool.eq_false_iff]; intro hh; rw [List.all_eq_true] at hh; have := hh k (List.mem_range.2 h); rw [hk] at this; cases this
theorem upAt_eq {l : List Int} {k : Nat} {u v : Int} (hu : l[k]? = some u) (hv : 0 < k → l[k - 1]? = some v) : upAt l k = (inB u 0 999 && (decide (k = 0) || decide (v < u))) := by
  cases k with
  | zero => simp [upAt, hu]
  | succ j => have := hv (by omega); simp only [Nat.add_sub_cancel] at this; simp [upAt, hu, this]
theorem upM_end {l : List Int} {k : Nat} (h : (List.range k).all (upAt l) = true) (h1 : k ≤ l.length) (h2 : ¬ k < l.length) : decide (((l.map icell).length : Int) ≤ 100) = upM l := by
  have : k = l.length := by omega
  subst this
  rw [upM, h, Bool.and_true]; exact decide_eq_decide.2 (by rw [List.length_map]; omega)
theorem prev_get {l : List Int} {k : Nat} (h : k < l.length) : ∃ c, 0 < k → l[k - 1]? = some c := ⟨(l[k - 1]?).getD 0, fun hk => by rw [List.getElem?_eq_getElem (by omega)]; rfl⟩
theorem upM_len {l : List Int} (h : 100 < l.length) : upM l = false := by rw [upM, decide_eq_false (by omega), Bool.false_and]
theorem upM_elt {l : List Int} {k : Nat} (h : k < l.length) (hk : upAt l k = false) : upM l = false := by rw [upM, range_noP h hk, Bool.and_false]
theorem upM_yes {l : List Int} {k : Nat} (h : (List.range k).all (upAt l) = true) (h1 : k ≤ l.length) (h2 : ¬ k < l.length) (h3 : l.length ≤ 100) : upM l = true := by rw [← upM_end h h1 h2, List.length_map, decide_eq_true (by omega)]
theorem and_no {p q : Bool} (h : q = false) : false = (p && q) := by rw [h, Bool.and_false]
theorem and_yes {p q r : Bool} (h1 : (!p) = false) (h2 : (!q) = false) (h : r = true) : true = (p && q && r) := by simp_all
theorem and_no1 {p q r : Bool} (h1 : (!p) = true) : false = (p && q && r) := by simp_all
theorem and_no2 {p q r : Bool} (h1 : (!q) = true) : false = (p && q && r) := by simp_all
theorem unitsRight_any {v : Value} {l : List Int} (w : World) (h : Rd w v 1 (l.map icell)) : FnV Tryd.prog 49 [v] w (.bool (upM l)) := by
  have hle := h.le_map
  have hln : (l.map icell).length = l.length := by simp
  refine FnV.of (n := 32) Tryd.func49 rfl rfl ?_; refine G.seq (G.region (G.v (rv_assign rfl) rfl (G.done (G.thenN (G.seq (G.seq (G.region (G.v (rv_move rfl) rfl ?_)))))))); refine G.v (rv_len rfl (by first | exact Rd.stays (by assumption))) rfl ?_; refine G.v (rv_move rfl) rfl (G.done (G.thenN (G.block ?_)))
  -- loop 0: turned [7], kept [0, 5, 6]
  refine G.loopK (ι := Nat) (ks := [0, 5, 6]) (fun k => [(7, .int .i64 k)]) (fun _ => []) (fun k => k ≤ l.length ∧ (List.range k).all (upAt l) = true) (fun k => l.length - k) 0 (.cons rfl (.cons rfl (.cons rfl (.nil)))) rfl ?_ ?_ ?_
  · exact ⟨Nat.zero_le _, rfl⟩
  · exact ⟨rfl, trivial⟩
  rintro k ⟨hk, ht⟩
  by_cases hlt : k < l.length
  case' pos => (obtain ⟨b, hb⟩ := get_of_lt hlt; have he := get_map hb icell; obtain ⟨c, hb2⟩ := prev_get hlt; have he2 : 0 < k → (l.map icell)[k - 1]? = some (icell c) := fun h => get_map (hb2 h) icell; have hup := upAt_eq hb hb2)
  all_goals
   refine G.seq (G.region (G.v (rv_lss rfl rfl) rfl (G.done (G.thenN (G.seq ?_))))); refine G.cond rfl (fun hc => ?_) (fun hc => ?_)
   · try exact Bool.noConfusion hc
     all_goals
      try replace hc := of_decide_eq_true hc
      try (exfalso; first | contradiction | omega)
      all_goals
       refine G.skip (G.thenN (G.seq (G.block (G.seq (G.region (G.v (rv_move rfl) rfl ?_))))))
       (first | refine G.v (rv_indexH (k := k - 1) rfl rfl (Rd.stays h) (by have := of_decide_eq_true hg; omega) (he2 (by have := of_decide_eq_true hg; omega))) rfl ?_ | refine G.v (rv_indexH rfl rfl (by first | exact Rd.stays (by assumption)) rfl (by first | assumption | exact he2 (by have := of_decide_eq_true hg; omega))) rfl ?_ | refine G.v (rv_index rfl rfl (by first | exact Rd.stays (by assumption)) rfl (by assumption)) rfl ?_)
       refine G.v (rv_loadE rfl (by first | exact Rd.stays (by assumption)) (by first | assumption | exact he2 (by have := of_decide_eq_true hg; omega)) rfl) rfl ?_; refine G.v (rv_assign rfl) rfl (G.v (rv_assign rfl) rfl (G.done (G.thenN (G.seq (G.region (G.v (rv_move rfl) rfl ?_)))))); refine G.op (og_callV rfl rfl (fun w _ => in_any _ _ _ w)) rfl (fun _ _ => ?_); refine G.v (rv_not rfl) rfl (G.v (rv_move rfl) rfl ?_)
       all_goals (((with_reducible refine G.gP rfl rfl (fun hg => ?_) (fun hg => ?_)) <;> (try exact Bool.noConfusion hg) <;> (first | (refine G.gY rfl rfl ?_; refine G.v (rv_move rfl) rfl ?_) | refine G.gN rfl rfl rfl ?_ | refine G.gU rfl rfl rfl ?_)))
       all_goals ((first | (refine G.gY rfl rfl ?_; refine G.v (rv_gtr rfl rfl) rfl ?_) | refine G.gN rfl rfl rfl ?_ | refine G.gU rfl rfl rfl ?_))
       all_goals ((first | (refine G.gY rfl rfl ?_; refine G.v (rv_move rfl) rfl ?_) | refine G.gN rfl rfl rfl ?_ | refine G.gU rfl rfl rfl ?_))
       all_goals ((first | refine G.gU rfl rfl rfl ?_ | ((with_reducible refine G.gP rfl rfl (fun hg => ?_) (fun hg => ?_)) <;> (try exact Bool.noConfusion hg) <;> (first | (refine G.gY rfl rfl ?_; refine G.v (rv_move rfl) rfl ?_) | refine G.gN rfl rfl rfl ?_ | refine G.gU rfl rfl rfl ?_))))
       all_goals ((first | (refine G.gY rfl rfl ?_; refine G.v (rv_move rfl) rfl ?_) | refine G.gN rfl rfl rfl ?_ | refine G.gU rfl rfl rfl ?_))
       all_goals ((first | (refine G.gY rfl rfl ?_; (first | refine G.v (rv_decr rfl rfl (by omega) (by omega)) rfl ?_ | refine G.v (rv_subB rfl rfl (by omega) (by omega)) rfl ?_)) | refine G.gN rfl rfl rfl ?_ | refine G.gU rfl rfl rfl ?_))
       all_goals ((first | (refine G.gY rfl rfl ?_; (first | refine G.v (rv_indexH (k := k - 1) rfl rfl (Rd.stays h) (by have := of_decide_eq_true hg; omega) (he2 (by have := of_decide_eq_true hg; omega))) rfl ?_ | refine G.v (rv_indexH rfl rfl (by first | exact Rd.stays (by assumption)) rfl (by first | assumption | exact he2 (by have := of_decide_eq_true hg; omega))) rfl ?_ | refine G.v (rv_index rfl rfl (by first | exact Rd.stays (by assumption)) rfl (by assumption)) rfl ?_)) | refine G.gN rfl rfl rfl ?_ | refine G.gU rfl rfl rfl ?_))
       all_goals ((first | (refine G.gY rfl rfl ?_; refine G.v (rv_loadE rfl (by first | exact Rd.stays (by assumption)) (by first | assumption | exact he2 (by have := of_decide_eq_true hg; omega)) rfl) rfl ?_) | refine G.gN rfl rfl rfl ?_ | refine G.gU rfl rfl rfl ?_))
       all_goals ((first | (refine G.gY rfl rfl ?_; refine G.v (rv_move rfl) rfl ?_) | refine G.gN rfl rfl rfl ?_ | refine G.gU rfl rfl rfl ?_))
       all_goals ((first | (refine G.gY rfl rfl ?_; refine G.v (rv_geq rfl rfl) rfl ?_) | refine G.gN rfl rfl rfl ?_ | refine G.gU rfl rfl rfl ?_))
       all_goals ((first | (refine G.gY rfl rfl ?_; (first | refine G.v (rv_pickT rfl rfl) rfl ?_ | refine G.v (rv_pickF rfl rfl) rfl ?_)) | refine G.gN rfl rfl rfl ?_ | refine G.gU rfl rfl rfl ?_))
       all_goals ((first | refine G.v (rv_pickT rfl rfl) rfl ?_ | refine G.v (rv_pickF rfl rfl) rfl ?_))
       all_goals
        refine G.done (G.thenN ?_); refine G.cond rfl (fun hc => ?_) (fun hc => ?_)
        · try exact Bool.noConfusion hc
          all_goals
           try replace hc := of_decide_eq_true hc
           try (exfalso; first | contradiction | omega)
           all_goals
            refine G.seq (G.region (G.v (rv_assign rfl) rfl (G.done (G.thenN (G.ret (G.inR (G.thenR (G.thenR (G.inR (G.thenR ?_))))))))))
            first | exact G.retFV rfl rfl (congrArg Value.bool (by rw [upM, range_noP hlt (by rw [hup]; (simp_all <;> omega)), Bool.and_false])) | exact G.retFV rfl rfl (congrArg Value.bool (upM_end ht hk (by omega)))
        · try exact Bool.noConfusion hc
          all_goals
           try replace hc := of_decide_eq_false hc
           try (exfalso; first | contradiction | omega)
           all_goals
            refine G.skip (G.inN (G.thenN (G.region ?_)))
            (first | refine G.v (rv_incr rfl rfl (by omega)) rfl ?_ | refine G.v (rv_addB rfl rfl (by omega) (by omega)) rfl ?_)
            refine G.v (rv_move rfl) rfl (G.done ?_)
            first | refine G.backK (k + 1) 0 rfl (.cons rfl (.cons rfl (.cons rfl (.nil)))) ?_ ?_ ?_ | refine G.backK (k + 1) 1 rfl (.cons rfl (.cons rfl (.cons rfl (.nil)))) ?_ ?_ ?_ | refine G.backK (k + 1) 2 rfl (.cons rfl (.cons rfl (.cons rfl (.nil)))) ?_ ?_ ?_ | refine G.backK (k + 1) 3 rfl (.cons rfl (.cons rfl (.cons rfl (.nil)))) ?_ ?_ ?_
            · exact ⟨rfl, trivial⟩
            · exact ⟨hlt, range_next ht (by rw [hup]; (simp_all <;> omega))⟩
            · omega
   · try exact Bool.noConfusion hc
     all_goals
      try replace hc := of_decide_eq_false hc
      try (exfalso; first | contradiction | omega)
      all_goals
       refine G.exit (G.thenX (G.thenX (G.inX (G.thenN (G.seq (G.region (G.v (rv_move rfl) rfl ?_))))))); refine G.v (rv_len rfl (by first | exact Rd.stays (by assumption))) rfl ?_; refine G.v (rv_leq rfl rfl) rfl (G.v (rv_assign rfl) rfl (G.done (G.thenN (G.ret ?_))))
       first | exact G.retFV rfl rfl (congrArg Value.bool (by rw [upM, range_noP hlt (by rw [hup]; (simp_all <;> omega)), Bool.and_false])) | exact G.retFV rfl rfl (congrArg Value.bool (upM_end ht hk (by omega)))
theorem l13Carton_any (a : CartonM × Value) (w : World) (h : Rd w a.2 1 (a.1.l.map icell)) : FnV Tryd.prog 43 [.agg (CartonM.cells a).toArray] w (.bool (inB a.1.t 0 999 && inB a.1.g 0 3 && upM a.1.l)) := by
  have hle := h.le_map
  have hln : (a.1.l.map icell).length = a.1.l.length := by simp
  refine FnV.of (n := 52) Tryd.func43 rfl rfl ?_; refine G.seq (G.region ?_); refine G.op (og_box rfl rfl) rfl (fun bk1 _ => ?_); refine G.v (rv_assign rfl) rfl (G.done (G.thenN (G.seq (G.seq (G.region ?_)))))
  (first | refine G.v (rv_field rfl) rfl ?_ | refine G.v (rv_fieldE rfl) rfl ?_)
  refine G.v (rv_load1 0 rfl rfl rfl) rfl ?_; refine G.op (og_callV rfl rfl (fun w _ => l2Id_any _ w)) rfl (fun _ _ => ?_); refine G.v (rv_not rfl) rfl (G.v (rv_move rfl) rfl ?_)
  all_goals (((with_reducible refine G.gP rfl rfl (fun hg => ?_) (fun hg => ?_)) <;> (try exact Bool.noConfusion hg) <;> (first | (refine G.gY rfl rfl ?_; (first | refine G.v (rv_field rfl) rfl ?_ | refine G.v (rv_fieldE rfl) rfl ?_)) | refine G.gN rfl rfl rfl ?_ | refine G.gU rfl rfl rfl ?_)))
  all_goals ((first | (refine G.gY rfl rfl ?_; refine G.v (rv_load1 0 rfl rfl rfl) rfl ?_) | refine G.gN rfl rfl rfl ?_ | refine G.gU rfl rfl rfl ?_))
  all_goals ((first | (refine G.gY rfl rfl ?_; refine G.op (og_callV rfl rfl (fun w _ => l1In_any _ _ _ w)) rfl (fun _ _ => ?_)) | refine G.gN rfl rfl rfl ?_ | refine G.gU rfl rfl rfl ?_))
  all_goals ((first | (refine G.gY rfl rfl ?_; refine G.v (rv_not rfl) rfl ?_) | refine G.gN rfl rfl rfl ?_ | refine G.gU rfl rfl rfl ?_))
  all_goals ((first | refine G.v (rv_pickT rfl rfl) rfl ?_ | refine G.v (rv_pickF rfl rfl) rfl ?_))
  all_goals (refine G.v (rv_move rfl) rfl ?_)
  all_goals (((with_reducible refine G.gP rfl rfl (fun hg => ?_) (fun hg => ?_)) <;> (try exact Bool.noConfusion hg) <;> (first | (refine G.gY rfl rfl ?_; (first | refine G.v (rv_field rfl) rfl ?_ | refine G.v (rv_fieldE rfl) rfl ?_)) | refine G.gN rfl rfl rfl ?_ | refine G.gU rfl rfl rfl ?_)))
  all_goals ((first | (refine G.gY rfl rfl ?_; refine G.v (rv_load1 0 rfl rfl rfl) rfl ?_) | refine G.gN rfl rfl rfl ?_ | refine G.gU rfl rfl rfl ?_))
  all_goals ((first | (refine G.gY rfl rfl ?_; refine G.v (rv_len rfl (by first | exact Rd.stays (by assumption) | exact Rd.owned 0 rfl)) rfl ?_) | refine G.gN rfl rfl rfl ?_ | refine G.gU rfl rfl rfl ?_))
  all_goals ((first | (refine G.gY rfl rfl ?_; refine G.v (rv_gtr rfl rfl) rfl ?_) | refine G.gN rfl rfl rfl ?_ | refine G.gU rfl rfl rfl ?_))
  all_goals ((first | refine G.v (rv_pickT rfl rfl) rfl ?_ | refine G.v (rv_pickF rfl rfl) rfl ?_))
  all_goals
   refine G.done (G.thenN ?_); refine G.cond rfl (fun hc => ?_) (fun hc => ?_)
   · try exact Bool.noConfusion hc
     all_goals
      try replace hc := of_decide_eq_true hc
      try (exfalso; first | contradiction | omega)
      all_goals
       refine G.seq (G.region (G.v (rv_assign rfl) rfl (G.done (G.thenN (G.ret (G.thenR ?_))))))
       first | exact G.retFV rfl rfl (congrArg Value.bool (and_no1 (by assumption))) | exact G.retFV rfl rfl (congrArg Value.bool (and_no2 (by assumption))) | exact G.retFV rfl rfl (congrArg Value.bool (and_no (upM_len (by omega)))) | exact G.retFV rfl rfl (congrArg Value.bool (and_no (upM_elt hlt (by rw [hup]; (simp_all <;> omega))))) | exact G.retFV rfl rfl (congrArg Value.bool (and_yes (by assumption) (by assumption) (upM_yes ht hk hlt (by omega))))
   · try exact Bool.noConfusion hc
     all_goals
      try replace hc := of_decide_eq_false hc
      try (exfalso; first | contradiction | omega)
      all_goals
       refine G.skip (G.thenN (G.seq (G.seq (G.region (G.v (rv_assign rfl) rfl (G.done (G.thenN (G.block ?_))))))))
       -- loop 0: turned [3], kept [1]
       refine G.loopK (ι := Nat) (ks := [1]) (fun k => [(3, .int .i64 k)]) (fun _ => []) (fun k => k ≤ a.1.l.length ∧ (List.range k).all (upAt a.1.l) = true) (fun k => a.1.l.length - k) 0 (.cons rfl (.nil)) rfl ?_ ?_ ?_
       · exact ⟨Nat.zero_le _, rfl⟩
       · exact ⟨rfl, trivial⟩
       rintro k ⟨hk, ht⟩
       by_cases hlt : k < a.1.l.length
       case' pos => (obtain ⟨b, hb⟩ := get_of_lt hlt; have he := get_map hb icell; obtain ⟨c, hb2⟩ := prev_get hlt; have he2 : 0 < k → (a.1.l.map icell)[k - 1]? = some (icell c) := fun h => get_map (hb2 h) icell; have hup := upAt_eq hb hb2)
       all_goals
        refine G.seq (G.seq (G.region (G.v (rv_move rfl) rfl ?_)))
        (first | refine G.v (rv_field rfl) rfl ?_ | refine G.v (rv_fieldE rfl) rfl ?_)
        refine G.v (rv_load1 0 rfl rfl rfl) rfl ?_; refine G.v (rv_len rfl (by first | exact Rd.stays (by assumption) | exact Rd.owned 0 rfl)) rfl ?_; refine G.v (rv_lss rfl rfl) rfl (G.done (G.thenN ?_)); refine G.cond rfl (fun hc => ?_) (fun hc => ?_)
        · try exact Bool.noConfusion hc
          all_goals
           try replace hc := of_decide_eq_true hc
           try (exfalso; first | contradiction | omega)
           all_goals
            refine G.skip (G.thenN (G.seq (G.block (G.seq ?_)))); refine G.drawL [] ?_
            (first | refine GE.q 0 rfl (by as_aux_lemma => kernel_rfl) rfl (qg_runs (rv_field rfl)) rfl ?_ | refine GE.q 0 rfl (by as_aux_lemma => kernel_rfl) rfl (qg_runs (rv_fieldE rfl)) rfl ?_)
            refine GE.q 1 rfl (by as_aux_lemma => kernel_rfl) rfl (qg_runs (rv_load1 0 rfl rfl rfl)) rfl ?_; refine GE.ol 2 (by as_aux_lemma => kernel_rfl) rfl rfl (og_runs (rv_move rfl)) rfl (fun _ _ h => by first | exact h | exact h.drop 1 | exact h.drop 2 | exact h.drop 3 | exact h.drop 4 | exact h.drop 5 | exact h.drop 6 | exact h.drop 7 | exact h.drop 8 | exact h.drop 9 | exact h.drop 10 | exact h.drop 11 | exact h.drop 12 | exact h.drop 13) (fun _ _ => ?_)
            (first | refine GE.ol 3 (by as_aux_lemma => kernel_rfl) rfl rfl (og_runs (rv_indexH (k := k - 1) rfl rfl (Rd.stays h) (by have := of_decide_eq_true hg; omega) (he2 (by have := of_decide_eq_true hg; omega)))) rfl (fun _ _ h => by first | exact h | exact h.drop 1 | exact h.drop 2 | exact h.drop 3 | exact h.drop 4 | exact h.drop 5 | exact h.drop 6 | exact h.drop 7 | exact h.drop 8 | exact h.drop 9 | exact h.drop 10 | exact h.drop 11 | exact h.drop 12 | exact h.drop 13) (fun _ _ => ?_) | refine GE.ol 3 (by as_aux_lemma => kernel_rfl) rfl rfl (og_runs (rv_indexH rfl rfl (by first | exact Rd.stays (by assumption) | exact Rd.owned 0 rfl) rfl (by first | assumption | exact he2 (by have := of_decide_eq_true hg; omega)))) rfl (fun _ _ h => by first | exact h | exact h.drop 1 | exact h.drop 2 | exact h.drop 3 | exact h.drop 4 | exact h.drop 5 | exact h.drop 6 | exact h.drop 7 | exact h.drop 8 | exact h.drop 9 | exact h.drop 10 | exact h.drop 11 | exact h.drop 12 | exact h.drop 13) (fun _ _ => ?_) | refine GE.ol 3 (by as_aux_lemma => kernel_rfl) rfl rfl (og_runs (rv_index rfl rfl (by first | exact Rd.stays (by assumption) | exact Rd.owned 0 rfl) rfl (by assumption))) rfl (fun _ _ h => by first | exact h | exact h.drop 1 | exact h.drop 2 | exact h.drop 3 | exact h.drop 4 | exact h.drop 5 | exact h.drop 6 | exact h.drop 7 | exact h.drop 8 | exact h.drop 9 | exact h.drop 10 | exact h.drop 11 | exact h.drop 12 | exact h.drop 13) (fun _ _ => ?_))
            refine GE.ol 4 (by as_aux_lemma => kernel_rfl) rfl rfl (og_runs (rv_loadE rfl (by first | exact Rd.stays (by assumption) | exact Rd.owned 0 rfl) (by first | assumption | exact he2 (by have := of_decide_eq_true hg; omega)) rfl)) rfl (fun _ _ h => by first | exact h | exact h.drop 1 | exact h.drop 2 | exact h.drop 3 | exact h.drop 4 | exact h.drop 5 | exact h.drop 6 | exact h.drop 7 | exact h.drop 8 | exact h.drop 9 | exact h.drop 10 | exact h.drop 11 | exact h.drop 12 | exact h.drop 13) (fun _ _ => ?_); refine GE.ol 5 (by as_aux_lemma => kernel_rfl) rfl rfl (og_callV rfl rfl (fun w _ => l1In_any _ _ _ w)) rfl (fun _ _ h => by first | exact h | exact h.drop 1 | exact h.drop 2 | exact h.drop 3 | exact h.drop 4 | exact h.drop 5 | exact h.drop 6 | exact h.drop 7 | exact h.drop 8 | exact h.drop 9 | exact h.drop 10 | exact h.drop 11 | exact h.drop 12 | exact h.drop 13) (fun _ _ => ?_); refine GE.ol 6 (by as_aux_lemma => kernel_rfl) rfl rfl (og_runs (rv_not rfl)) rfl (fun _ _ h => by first | exact h | exact h.drop 1 | exact h.drop 2 | exact h.drop 3 | exact h.drop 4 | exact h.drop 5 | exact h.drop 6 | exact h.drop 7 | exact h.drop 8 | exact h.drop 9 | exact h.drop 10 | exact h.drop 11 | exact h.drop 12 | exact h.drop 13) (fun _ _ => ?_)
            refine GE.ol 7 (by as_aux_lemma => kernel_rfl) rfl rfl (og_runs (rv_move rfl)) rfl (fun _ _ h => by first | exact h | exact h.drop 1 | exact h.drop 2 | exact h.drop 3 | exact h.drop 4 | exact h.drop 5 | exact h.drop 6 | exact h.drop 7 | exact h.drop 8 | exact h.drop 9 | exact h.drop 10 | exact h.drop 11 | exact h.drop 12 | exact h.drop 13) (fun _ _ => ?_)
            all_goals (((with_reducible refine GE.part (t := 34) rfl (fun hg => ?_) (fun hg => ?_)) <;> (try exact Bool.noConfusion hg) <;> (first | refine GE.q 8 rfl (by as_aux_lemma => kernel_rfl) rfl (qg_runs (rv_move rfl)) rfl ?_ | refine GE.qn 8 rfl (by as_aux_lemma => kernel_rfl) rfl rfl ?_)))
            all_goals ((first | refine GE.q 9 rfl (by as_aux_lemma => kernel_rfl) rfl (qg_runs (rv_gtr rfl rfl)) rfl ?_ | refine GE.qn 9 rfl (by as_aux_lemma => kernel_rfl) rfl rfl ?_))
            all_goals ((first | refine GE.q 10 rfl (by as_aux_lemma => kernel_rfl) rfl (qg_runs (rv_move rfl)) rfl ?_ | refine GE.qn 10 rfl (by as_aux_lemma => kernel_rfl) rfl rfl ?_))
            all_goals ((first | refine GE.qn 11 rfl (by as_aux_lemma => kernel_rfl) rfl rfl ?_ | ((with_reducible refine GE.part (t := 37) rfl (fun hg => ?_) (fun hg => ?_)) <;> (try exact Bool.noConfusion hg) <;> (first | (first | refine GE.q 11 rfl (by as_aux_lemma => kernel_rfl) rfl (qg_runs (rv_field rfl)) rfl ?_ | refine GE.q 11 rfl (by as_aux_lemma => kernel_rfl) rfl (qg_runs (rv_fieldE rfl)) rfl ?_) | refine GE.qn 11 rfl (by as_aux_lemma => kernel_rfl) rfl rfl ?_))))
            all_goals ((first | refine GE.q 12 rfl (by as_aux_lemma => kernel_rfl) rfl (qg_runs (rv_load1 0 rfl rfl rfl)) rfl ?_ | refine GE.qn 12 rfl (by as_aux_lemma => kernel_rfl) rfl rfl ?_))
            all_goals ((first | refine GE.q 13 rfl (by as_aux_lemma => kernel_rfl) rfl (qg_runs (rv_move rfl)) rfl ?_ | refine GE.qn 13 rfl (by as_aux_lemma => kernel_rfl) rfl rfl ?_))
            all_goals ((first | (first | refine GE.q 14 rfl (by as_aux_lemma => kernel_rfl) rfl (qg_runs (rv_indexH (k := k - 1) rfl rfl (Rd.stays h) (by have := of_decide_eq_true hg; omega) (he2 (by have := of_decide_eq_true hg; omega)))) rfl ?_ | refine GE.q 14 rfl (by as_aux_lemma => kernel_rfl) rfl (qg_runs (rv_indexH rfl rfl (by first | exact Rd.stays (by assumption) | exact Rd.owned 0 rfl) rfl (by first | assumption | exact he2 (by have := of_decide_eq_true hg; omega)))) rfl ?_ | refine GE.q 14 rfl (by as_aux_lemma => kernel_rfl) rfl (qg_runs (rv_index rfl rfl (by first | exact Rd.stays (by assumption) | exact Rd.owned 0 rfl) rfl (by assumption))) rfl ?_) | refine GE.qn 14 rfl (by as_aux_lemma => kernel_rfl) rfl rfl ?_))
            all_goals ((first | refine GE.q 15 rfl (by as_aux_lemma => kernel_rfl) rfl (qg_runs (rv_loadE rfl (by first | exact Rd.stays (by assumption) | exact Rd.owned 0 rfl) (by first | assumption | exact he2 (by have := of_decide_eq_true hg; omega)) rfl)) rfl ?_ | refine GE.qn 15 rfl (by as_aux_lemma => kernel_rfl) rfl rfl ?_))
            all_goals ((first | (first | refine GE.q 16 rfl (by as_aux_lemma => kernel_rfl) rfl (qg_runs (rv_field rfl)) rfl ?_ | refine GE.q 16 rfl (by as_aux_lemma => kernel_rfl) rfl (qg_runs (rv_fieldE rfl)) rfl ?_) | refine GE.qn 16 rfl (by as_aux_lemma => kernel_rfl) rfl rfl ?_))
            all_goals ((first | refine GE.q 17 rfl (by as_aux_lemma => kernel_rfl) rfl (qg_runs (rv_load1 0 rfl rfl rfl)) rfl ?_ | refine GE.qn 17 rfl (by as_aux_lemma => kernel_rfl) rfl rfl ?_))
            all_goals ((first | refine GE.q 18 rfl (by as_aux_lemma => kernel_rfl) rfl (qg_runs (rv_move rfl)) rfl ?_ | refine GE.qn 18 rfl (by as_aux_lemma => kernel_rfl) rfl rfl ?_))
            all_goals ((first | (first | refine GE.q 19 rfl (by as_aux_lemma => kernel_rfl) rfl (qg_runs (rv_decr rfl rfl (by omega) (by omega))) rfl ?_ | refine GE.q 19 rfl (by as_aux_lemma => kernel_rfl) rfl (qg_runs (rv_subB rfl rfl (by omega) (by omega))) rfl ?_) | refine GE.qn 19 rfl (by as_aux_lemma => kernel_rfl) rfl rfl ?_))
            all_goals ((first | (first | refine GE.q 20 rfl (by as_aux_lemma => kernel_rfl) rfl (qg_runs (rv_indexH (k := k - 1) rfl rfl (Rd.stays h) (by have := of_decide_eq_true hg; omega) (he2 (by have := of_decide_eq_true hg; omega)))) rfl ?_ | refine GE.q 20 rfl (by as_aux_lemma => kernel_rfl) rfl (qg_runs (rv_indexH rfl rfl (by first | exact Rd.stays (by assumption) | exact Rd.owned 0 rfl) rfl (by first | assumption | exact he2 (by have := of_decide_eq_true hg; omega)))) rfl ?_ | refine GE.q 20 rfl (by as_aux_lemma => kernel_rfl) rfl (qg_runs (rv_index rfl rfl (by first | exact Rd.stays (by assumption) | exact Rd.owned 0 rfl) rfl (by assumption))) rfl ?_) | refine GE.qn 20 rfl (by as_aux_lemma => kernel_rfl) rfl rfl ?_))
            all_goals ((first | refine GE.q 21 rfl (by as_aux_lemma => kernel_rfl) rfl (qg_runs (rv_loadE rfl (by first | exact Rd.stays (by assumption) | exact Rd.owned 0 rfl) (by first | assumption | exact he2 (by have := of_decide_eq_true hg; omega)) rfl)) rfl ?_ | refine GE.qn 21 rfl (by as_aux_lemma => kernel_rfl) rfl rfl ?_))
            all_goals ((first | refine GE.q 22 rfl (by as_aux_lemma => kernel_rfl) rfl (qg_runs (rv_leq rfl rfl)) rfl ?_ | refine GE.qn 22 rfl (by as_aux_lemma => kernel_rfl) rfl rfl ?_))
            all_goals ((first | (first | refine GE.q 23 rfl (by as_aux_lemma => kernel_rfl) rfl (qg_runs (rv_pickT rfl rfl)) rfl ?_ | refine GE.q 23 rfl (by as_aux_lemma => kernel_rfl) rfl (qg_runs (rv_pickF rfl rfl)) rfl ?_) | refine GE.qn 23 rfl (by as_aux_lemma => kernel_rfl) rfl rfl ?_))
            all_goals ((first | refine GE.ol 24 (by as_aux_lemma => kernel_rfl) rfl rfl (og_runs (rv_pickT rfl rfl)) rfl (fun _ _ h => by first | exact h | exact h.drop 1 | exact h.drop 2 | exact h.drop 3 | exact h.drop 4 | exact h.drop 5 | exact h.drop 6 | exact h.drop 7 | exact h.drop 8 | exact h.drop 9 | exact h.drop 10 | exact h.drop 11 | exact h.drop 12 | exact h.drop 13) (fun _ _ => ?_) | refine GE.ol 24 (by as_aux_lemma => kernel_rfl) rfl rfl (og_runs (rv_pickF rfl rfl)) rfl (fun _ _ h => by first | exact h | exact h.drop 1 | exact h.drop 2 | exact h.drop 3 | exact h.drop 4 | exact h.drop 5 | exact h.drop 6 | exact h.drop 7 | exact h.drop 8 | exact h.drop 9 | exact h.drop 10 | exact h.drop 11 | exact h.drop 12 | exact h.drop 13) (fun _ _ => ?_)))
            all_goals
             refine GE.done (by as_aux_lemma => kernel_rfl) ?_; refine G.thenN ?_; refine G.cond rfl (fun hc => ?_) (fun hc => ?_)
             · try exact Bool.noConfusion hc
               all_goals
                try replace hc := of_decide_eq_true hc
                try (exfalso; first | contradiction | omega)
                all_goals
                 refine G.seq (G.region (G.v (rv_assign rfl) rfl (G.done (G.thenN (G.ret (G.inR (G.thenR (G.thenR (G.inR (G.thenR ?_))))))))))
                 first | exact G.retFV rfl rfl (congrArg Value.bool (and_no1 (by assumption))) | exact G.retFV rfl rfl (congrArg Value.bool (and_no2 (by assumption))) | exact G.retFV rfl rfl (congrArg Value.bool (and_no (upM_len (by omega)))) | exact G.retFV rfl rfl (congrArg Value.bool (and_no (upM_elt hlt (by rw [hup]; (simp_all <;> omega))))) | exact G.retFV rfl rfl (congrArg Value.bool (and_yes (by assumption) (by assumption) (upM_yes ht hk hlt (by omega))))
             · try exact Bool.noConfusion hc
               all_goals
                try replace hc := of_decide_eq_false hc
                try (exfalso; first | contradiction | omega)
                all_goals
                 refine G.skip (G.inN (G.thenN (G.region (G.v (rv_move rfl) rfl ?_))))
                 (first | refine G.v (rv_incr rfl rfl (by omega)) rfl ?_ | refine G.v (rv_addB rfl rfl (by omega) (by omega)) rfl ?_)
                 refine G.v (rv_assign rfl) rfl (G.done ?_)
                 first | refine G.backK (k + 1) 0 rfl (.cons rfl (.nil)) ?_ ?_ ?_ | refine G.backK (k + 1) 1 rfl (.cons rfl (.nil)) ?_ ?_ ?_ | refine G.backK (k + 1) 2 rfl (.cons rfl (.nil)) ?_ ?_ ?_ | refine G.backK (k + 1) 3 rfl (.cons rfl (.nil)) ?_ ?_ ?_
                 · exact ⟨rfl, trivial⟩
                 · exact ⟨hlt, range_next ht (by rw [hup]; (simp_all <;> omega))⟩
                 · omega
        · try exact Bool.noConfusion hc
          all_goals
           try replace hc := of_decide_eq_false hc
           try (exfalso; first | contradiction | omega)
           all_goals
            refine G.exit (G.thenX (G.thenX (G.inX (G.thenN (G.seq (G.region (G.v (rv_assign rfl) rfl (G.done (G.thenN (G.ret ?_))))))))))
            first | exact G.retFV rfl rfl (congrArg Value.bool (and_no1 (by assumption))) | exact G.retFV rfl rfl (congrArg Value.bool (and_no2 (by assumption))) | exact G.retFV rfl rfl (congrArg Value.bool (and_no (upM_len (by omega)))) | exact G.retFV rfl rfl (congrArg Value.bool (and_no (upM_elt hlt (by rw [hup]; (simp_all <;> omega))))) | exact G.retFV rfl rfl (congrArg Value.bool (and_yes (by assumption) (by assumption) (upM_yes ht hk hlt (by omega))))
def planAt (cs : List CartonM) (ss : List SpotM) (i : Nat) : Bool := match cs[i]?, ss[i]? with
  | some c, some s => (inB c.t 0 999 && inB c.g 0 3 && upM c.l) && inB s.p 0 2000 && inB s.x 0 2000 && inB s.y 0 2000 && inB s.z 0 2000
  | _, _ => true
def planOkM (cs : List CartonM) (ss : List SpotM) : Bool := decide (ss.length = cs.length) && decide (cs.length ≤ 100) && (List.range cs.length).all (planAt cs ss)
theorem planAt_eq {cs : List (CartonM × Value)} {ss : List SpotM} {k : Nat} {c : CartonM × Value} {s : SpotM} (h : cs[k]? = some c) (h2 : ss[k]? = some s) :
    planAt (cs.map Prod.fst) ss k = ((inB c.1.t 0 999 && inB c.1.g 0 3 && upM c.1.l) && inB s.p 0 2000 && inB s.x 0 2000 && inB s.y 0 2000 && inB s.z 0 2000) := by
  simp [planAt, h, h2]
theorem planOk_len {cs : List (CartonM × Value)} {ss : List SpotM} (h : ss.length ≠ cs.length) : false = planOkM (cs.map Prod.fst) ss := by
  rw [planOkM, List.length_map, decide_eq_false h]; rfl
theorem planOk_many {cs : List (CartonM × Value)} {ss : List SpotM} (h : 100 < cs.length) : false = planOkM (cs.map Prod.fst) ss := by
  rw [planOkM, List.length_map, decide_eq_false (p := cs.length ≤ 100) (by omega), Bool.and_false]; rfl
theorem planOk_elt {cs : List (CartonM × Value)} {ss : List SpotM} {k : Nat} (h : k < cs.length) (hk : planAt (cs.map Prod.fst) ss k = false) : false = planOkM (cs.map Prod.fst) ss := by
  rw [planOkM, List.length_map, range_noP h hk, Bool.and_false]
theorem planOk_yes {cs : List (CartonM × Value)} {ss : List SpotM} {k : Nat} (h : (List.range k).all (planAt (cs.map Prod.fst) ss) = true) (h1 : k ≤ cs.length) (h2 : ¬ k < cs.length) (h3 : ss.length = cs.length) (h4 : cs.length ≤ 100) : true = planOkM (cs.map Prod.fst) ss := by
  have : k = cs.length := by omega
  subst this
  rw [planOkM, List.length_map, h, decide_eq_true h3, decide_eq_true h4]; rfl
theorem implPlanOk_any {cv sv : Value} {cs : List (CartonM × Value)} {ss : List SpotM} (w : World) (h : Rd w cv 3 (cs.map CartonM.cells)) (hs : Subs w CartonM.l cs) (h3 : Rd w sv 4 (ss.map SpotM.cells)) : FnV Tryd.prog 27 [.agg [cv, sv].toArray] w (.bool (planOkM (cs.map Prod.fst) ss)) := by
  have hle := h.le_map
  have hln : (cs.map CartonM.cells).length = cs.length := by simp
  have hln2 : (ss.map SpotM.cells).length = ss.length := by simp
  refine FnV.of (n := 73) Tryd.func27 rfl rfl ?_; refine G.seq (G.region ?_); refine G.op (og_box rfl rfl) rfl (fun bk1 _ => ?_); refine G.v (rv_assign rfl) rfl (G.done (G.thenN (G.seq (G.seq (G.region ?_)))))
  (first | refine G.v (rv_field rfl) rfl ?_ | refine G.v (rv_fieldE rfl) rfl ?_)
  (first | refine G.v (rv_load1 0 rfl rfl rfl) rfl ?_ | refine G.v (rv_load1 1 rfl rfl rfl) rfl ?_ | refine G.v (rv_load1 2 rfl rfl rfl) rfl ?_ | refine G.v (rv_load1 3 rfl rfl rfl) rfl ?_)
  refine G.v (rv_len rfl (by first | exact Rd.stays (by assumption) | exact Rd.owned 0 rfl | exact Rd.owned 1 rfl | exact Rd.owned 2 rfl | exact Rd.owned 3 rfl)) rfl ?_
  (first | refine G.v (rv_field rfl) rfl ?_ | refine G.v (rv_fieldE rfl) rfl ?_)
  (first | refine G.v (rv_load1 0 rfl rfl rfl) rfl ?_ | refine G.v (rv_load1 1 rfl rfl rfl) rfl ?_ | refine G.v (rv_load1 2 rfl rfl rfl) rfl ?_ | refine G.v (rv_load1 3 rfl rfl rfl) rfl ?_)
  refine G.v (rv_len rfl (by first | exact Rd.stays (by assumption) | exact Rd.owned 0 rfl | exact Rd.owned 1 rfl | exact Rd.owned 2 rfl | exact Rd.owned 3 rfl)) rfl ?_; refine G.v (rv_neq rfl rfl) rfl (G.v (rv_move rfl) rfl ?_)
  all_goals (((with_reducible refine G.gP rfl rfl (fun hg => ?_) (fun hg => ?_)) <;> (try exact Bool.noConfusion hg) <;> (first | (refine G.gY rfl rfl ?_; (first | refine G.v (rv_field rfl) rfl ?_ | refine G.v (rv_fieldE rfl) rfl ?_)) | refine G.gN rfl rfl rfl ?_ | refine G.gU rfl rfl rfl ?_)))
  all_goals ((first | (refine G.gY rfl rfl ?_; (first | refine G.v (rv_load1 0 rfl rfl rfl) rfl ?_ | refine G.v (rv_load1 1 rfl rfl rfl) rfl ?_ | refine G.v (rv_load1 2 rfl rfl rfl) rfl ?_ | refine G.v (rv_load1 3 rfl rfl rfl) rfl ?_)) | refine G.gN rfl rfl rfl ?_ | refine G.gU rfl rfl rfl ?_))
  all_goals ((first | (refine G.gY rfl rfl ?_; refine G.v (rv_len rfl (by first | exact Rd.stays (by assumption) | exact Rd.owned 0 rfl | exact Rd.owned 1 rfl | exact Rd.owned 2 rfl | exact Rd.owned 3 rfl)) rfl ?_) | refine G.gN rfl rfl rfl ?_ | refine G.gU rfl rfl rfl ?_))
  all_goals ((first | (refine G.gY rfl rfl ?_; refine G.v (rv_gtr rfl rfl) rfl ?_) | refine G.gN rfl rfl rfl ?_ | refine G.gU rfl rfl rfl ?_))
  all_goals ((first | refine G.v (rv_pickT rfl rfl) rfl ?_ | refine G.v (rv_pickF rfl rfl) rfl ?_))
  all_goals
   refine G.done (G.thenN ?_); refine G.cond rfl (fun hc => ?_) (fun hc => ?_)
   · try exact Bool.noConfusion hc
     all_goals
      try replace hc := of_decide_eq_true hc
      try (exfalso; first | contradiction | omega)
      all_goals
       refine G.seq (G.region (G.v (rv_assign rfl) rfl (G.done (G.thenN (G.ret (G.thenR ?_))))))
       first | exact G.retFV rfl rfl (congrArg Value.bool (planOk_yes ht hk hlt hlen (by omega))) | exact G.retFV rfl rfl (congrArg Value.bool (planOk_elt hlt (by rw [hpa, Bool.eq_false_iff]; (intro hh; simp_all; done)))) | exact G.retFV rfl rfl (congrArg Value.bool (planOk_many (by omega))) | exact G.retFV rfl rfl (congrArg Value.bool (planOk_len (by have := of_decide_eq_true hg; omega)))
   · try exact Bool.noConfusion hc
     all_goals
      try replace hc := of_decide_eq_false hc
      try (exfalso; first | contradiction | omega)
      all_goals
       refine G.skip (G.thenN (G.seq (G.seq (G.region ?_))))
       (first | refine G.v (rv_field rfl) rfl ?_ | refine G.v (rv_fieldE rfl) rfl ?_)
       (first | refine G.v (rv_load1 0 rfl rfl rfl) rfl ?_ | refine G.v (rv_load1 1 rfl rfl rfl) rfl ?_ | refine G.v (rv_load1 2 rfl rfl rfl) rfl ?_ | refine G.v (rv_load1 3 rfl rfl rfl) rfl ?_)
       refine G.v (rv_len rfl (by first | exact Rd.stays (by assumption) | exact Rd.owned 0 rfl | exact Rd.owned 1 rfl | exact Rd.owned 2 rfl | exact Rd.owned 3 rfl)) rfl ?_; refine G.v (rv_move rfl) rfl (G.done (G.thenN (G.block ?_)))
       -- loop 0: turned [22], kept [1, 20, 21]
       have hlen : ss.length = cs.length := by have := of_decide_eq_false hg; omega
       refine G.loopK (ι := Nat) (ks := [1, 20, 21]) (fun k => [(22, .int .i64 k)]) (fun _ => []) (fun k => k ≤ cs.length ∧ (List.range k).all (planAt (cs.map Prod.fst) ss) = true) (fun k => cs.length - k) 0 (.cons rfl (.cons rfl (.cons rfl (.nil)))) rfl ?_ ?_ ?_
       · exact ⟨Nat.zero_le _, rfl⟩
       · exact ⟨rfl, trivial⟩
       rintro k ⟨hk, ht⟩
       by_cases hlt : k < cs.length
       case' pos => (obtain ⟨b, hb⟩ := get_of_lt hlt; obtain ⟨s, hb2⟩ := get_of_lt (l := ss) (k := k) (by omega); have he := get_map hb CartonM.cells; have he2 := get_map hb2 SpotM.cells; have hov : b.2.oneCell' = true := (h.good _ (List.mem_of_getElem? he)).2 b.2 (by simp [CartonM.cells]); have hpa := planAt_eq hb hb2)
       all_goals
        refine G.seq (G.region (G.v (rv_lss rfl rfl) rfl (G.done (G.thenN (G.seq ?_))))); refine G.cond rfl (fun hc => ?_) (fun hc => ?_)
        · try exact Bool.noConfusion hc
          all_goals
           try replace hc := of_decide_eq_true hc
           try (exfalso; first | contradiction | omega)
           all_goals
            refine G.skip (G.thenN (G.seq (G.block (G.seq (G.region (G.v (rv_move rfl) rfl ?_))))))
            (first | refine G.v (rv_indexH rfl rfl (by first | exact Rd.stays (by assumption) | exact Rd.owned 0 rfl | exact Rd.owned 1 rfl | exact Rd.owned 2 rfl | exact Rd.owned 3 rfl) rfl (by assumption)) rfl ?_ | refine G.v (rv_index rfl rfl (by first | exact Rd.stays (by assumption) | exact Rd.owned 0 rfl | exact Rd.owned 1 rfl | exact Rd.owned 2 rfl | exact Rd.owned 3 rfl) rfl (by assumption)) rfl ?_)
            (first | refine G.v (rv_loadEW rfl (by first | exact Rd.stays (by assumption) | exact Rd.owned 0 rfl | exact Rd.owned 1 rfl | exact Rd.owned 2 rfl | exact Rd.owned 3 rfl) (by assumption) rfl) rfl ?_ | refine G.v (rv_loadEP rfl (by first | exact Rd.stays (by assumption) | exact Rd.owned 0 rfl | exact Rd.owned 1 rfl | exact Rd.owned 2 rfl | exact Rd.owned 3 rfl) (by assumption) (.one (.one (.one .nil)))) rfl ?_)
            refine G.op (og_alloc) rfl (fun bk4 _ => ?_); refine G.v (rv_assign rfl) rfl ?_
            (first | refine G.op0 (og_st0 rfl rfl rfl rfl rfl (by repeat (first | rfl | refine one_cons (by first | rfl | assumption) ?_)) (.zero (.cons (.cons (.cons .nil))))) (fun _ _ => ?_) | refine G.op0 (og_st1 rfl rfl rfl rfl rfl (by repeat (first | rfl | refine one_cons (by first | rfl | assumption) ?_)) (.zero (.cons (.cons (.cons .nil))))) (fun _ _ => ?_) | refine G.op0 (og_st2 rfl rfl rfl rfl rfl (by repeat (first | rfl | refine one_cons (by first | rfl | assumption) ?_)) (.zero (.cons (.cons (.cons .nil))))) (fun _ _ => ?_) | refine G.op0 (og_st3 rfl rfl rfl rfl rfl (by repeat (first | rfl | refine one_cons (by first | rfl | assumption) ?_)) (.zero (.cons (.cons (.cons .nil))))) (fun _ _ => ?_))
            refine G.done (G.thenN (G.seq (G.region ?_)))
            (first | refine G.v (rv_field rfl) rfl ?_ | refine G.v (rv_fieldE rfl) rfl ?_)
            (first | refine G.v (rv_load1 0 rfl rfl rfl) rfl ?_ | refine G.v (rv_load1 1 rfl rfl rfl) rfl ?_ | refine G.v (rv_load1 2 rfl rfl rfl) rfl ?_ | refine G.v (rv_load1 3 rfl rfl rfl) rfl ?_)
            refine G.v (rv_move rfl) rfl ?_
            (first | refine G.v (rv_indexH rfl rfl (by first | exact Rd.stays (by assumption) | exact Rd.owned 0 rfl | exact Rd.owned 1 rfl | exact Rd.owned 2 rfl | exact Rd.owned 3 rfl) rfl (by assumption)) rfl ?_ | refine G.v (rv_index rfl rfl (by first | exact Rd.stays (by assumption) | exact Rd.owned 0 rfl | exact Rd.owned 1 rfl | exact Rd.owned 2 rfl | exact Rd.owned 3 rfl) rfl (by assumption)) rfl ?_)
            (first | refine G.v (rv_loadEW rfl (by first | exact Rd.stays (by assumption) | exact Rd.owned 0 rfl | exact Rd.owned 1 rfl | exact Rd.owned 2 rfl | exact Rd.owned 3 rfl) (by assumption) rfl) rfl ?_ | refine G.v (rv_loadEP rfl (by first | exact Rd.stays (by assumption) | exact Rd.owned 0 rfl | exact Rd.owned 1 rfl | exact Rd.owned 2 rfl | exact Rd.owned 3 rfl) (by assumption) (.one (.one (.one (.one .nil))))) rfl ?_)
            refine G.op (og_alloc) rfl (fun bk5 _ => ?_)
            (first | refine G.op0 (og_st0 rfl rfl rfl rfl rfl rfl (.zero (.cons (.cons (.cons (.cons .nil)))))) (fun _ _ => ?_) | refine G.op0 (og_st1 rfl rfl rfl rfl rfl rfl (.zero (.cons (.cons (.cons (.cons .nil)))))) (fun _ _ => ?_) | refine G.op0 (og_st2 rfl rfl rfl rfl rfl rfl (.zero (.cons (.cons (.cons (.cons .nil)))))) (fun _ _ => ?_) | refine G.op0 (og_st3 rfl rfl rfl rfl rfl rfl (.zero (.cons (.cons (.cons (.cons .nil)))))) (fun _ _ => ?_))
            refine G.done (G.thenN (G.seq (G.region ?_)))
            (first | refine G.v (rv_field rfl) rfl ?_ | refine G.v (rv_fieldE rfl) rfl ?_)
            (first | refine G.v (rv_load1 0 rfl rfl rfl) rfl ?_ | refine G.v (rv_load1 1 rfl rfl rfl) rfl ?_ | refine G.v (rv_load1 2 rfl rfl rfl) rfl ?_ | refine G.v (rv_load1 3 rfl rfl rfl) rfl ?_)
            refine G.op (og_callV rfl rfl (fun w _ => in_any _ _ _ w)) rfl (fun _ _ => ?_); refine G.v (rv_not rfl) rfl (G.v (rv_move rfl) rfl ?_)
            all_goals (((with_reducible refine G.gP rfl rfl (fun hg => ?_) (fun hg => ?_)) <;> (try exact Bool.noConfusion hg) <;> (first | (refine G.gY rfl rfl ?_; (first | refine G.v (rv_field rfl) rfl ?_ | refine G.v (rv_fieldE rfl) rfl ?_)) | refine G.gN rfl rfl rfl ?_ | refine G.gU rfl rfl rfl ?_)))
            all_goals ((first | (refine G.gY rfl rfl ?_; (first | refine G.v (rv_load1 0 rfl rfl rfl) rfl ?_ | refine G.v (rv_load1 1 rfl rfl rfl) rfl ?_ | refine G.v (rv_load1 2 rfl rfl rfl) rfl ?_ | refine G.v (rv_load1 3 rfl rfl rfl) rfl ?_)) | refine G.gN rfl rfl rfl ?_ | refine G.gU rfl rfl rfl ?_))
            all_goals ((first | (refine G.gY rfl rfl ?_; refine G.op (og_callV rfl rfl (fun w _ => in_any _ _ _ w)) rfl (fun _ _ => ?_)) | refine G.gN rfl rfl rfl ?_ | refine G.gU rfl rfl rfl ?_))
            all_goals ((first | (refine G.gY rfl rfl ?_; refine G.v (rv_not rfl) rfl ?_) | refine G.gN rfl rfl rfl ?_ | refine G.gU rfl rfl rfl ?_))
            all_goals ((first | refine G.v (rv_pickT rfl rfl) rfl ?_ | refine G.v (rv_pickF rfl rfl) rfl ?_))
            all_goals (refine G.v (rv_move rfl) rfl ?_)
            all_goals (((with_reducible refine G.gP rfl rfl (fun hg => ?_) (fun hg => ?_)) <;> (try exact Bool.noConfusion hg) <;> (first | (refine G.gY rfl rfl ?_; (first | refine G.v (rv_field rfl) rfl ?_ | refine G.v (rv_fieldE rfl) rfl ?_)) | refine G.gN rfl rfl rfl ?_ | refine G.gU rfl rfl rfl ?_)))
            all_goals ((first | (refine G.gY rfl rfl ?_; (first | refine G.v (rv_load1 0 rfl rfl rfl) rfl ?_ | refine G.v (rv_load1 1 rfl rfl rfl) rfl ?_ | refine G.v (rv_load1 2 rfl rfl rfl) rfl ?_ | refine G.v (rv_load1 3 rfl rfl rfl) rfl ?_)) | refine G.gN rfl rfl rfl ?_ | refine G.gU rfl rfl rfl ?_))
            all_goals ((first | (refine G.gY rfl rfl ?_; refine G.op (og_callV rfl rfl (fun w hh => unitsRight_any w (Rd.stays (hs.at hb) _ hh))) rfl (fun _ _ => ?_)) | refine G.gN rfl rfl rfl ?_ | refine G.gU rfl rfl rfl ?_))
            all_goals ((first | (refine G.gY rfl rfl ?_; refine G.v (rv_not rfl) rfl ?_) | refine G.gN rfl rfl rfl ?_ | refine G.gU rfl rfl rfl ?_))
            all_goals ((first | refine G.v (rv_pickT rfl rfl) rfl ?_ | refine G.v (rv_pickF rfl rfl) rfl ?_))
            all_goals (refine G.v (rv_move rfl) rfl ?_)
            all_goals (((with_reducible refine G.gP rfl rfl (fun hg => ?_) (fun hg => ?_)) <;> (try exact Bool.noConfusion hg) <;> (first | (refine G.gY rfl rfl ?_; (first | refine G.v (rv_field rfl) rfl ?_ | refine G.v (rv_fieldE rfl) rfl ?_)) | refine G.gN rfl rfl rfl ?_ | refine G.gU rfl rfl rfl ?_)))
            all_goals ((first | (refine G.gY rfl rfl ?_; (first | refine G.v (rv_load1 0 rfl rfl rfl) rfl ?_ | refine G.v (rv_load1 1 rfl rfl rfl) rfl ?_ | refine G.v (rv_load1 2 rfl rfl rfl) rfl ?_ | refine G.v (rv_load1 3 rfl rfl rfl) rfl ?_)) | refine G.gN rfl rfl rfl ?_ | refine G.gU rfl rfl rfl ?_))
            all_goals ((first | (refine G.gY rfl rfl ?_; refine G.op (og_callV rfl rfl (fun w _ => isPlace_any _ w)) rfl (fun _ _ => ?_)) | refine G.gN rfl rfl rfl ?_ | refine G.gU rfl rfl rfl ?_))
            all_goals ((first | (refine G.gY rfl rfl ?_; refine G.v (rv_not rfl) rfl ?_) | refine G.gN rfl rfl rfl ?_ | refine G.gU rfl rfl rfl ?_))
            all_goals ((first | refine G.v (rv_pickT rfl rfl) rfl ?_ | refine G.v (rv_pickF rfl rfl) rfl ?_))
            all_goals (refine G.v (rv_move rfl) rfl ?_)
            all_goals (((with_reducible refine G.gP rfl rfl (fun hg => ?_) (fun hg => ?_)) <;> (try exact Bool.noConfusion hg) <;> (first | (refine G.gY rfl rfl ?_; (first | refine G.v (rv_field rfl) rfl ?_ | refine G.v (rv_fieldE rfl) rfl ?_)) | refine G.gN rfl rfl rfl ?_ | refine G.gU rfl rfl rfl ?_)))
            all_goals ((first | (refine G.gY rfl rfl ?_; (first | refine G.v (rv_load1 0 rfl rfl rfl) rfl ?_ | refine G.v (rv_load1 1 rfl rfl rfl) rfl ?_ | refine G.v (rv_load1 2 rfl rfl rfl) rfl ?_ | refine G.v (rv_load1 3 rfl rfl rfl) rfl ?_)) | refine G.gN rfl rfl rfl ?_ | refine G.gU rfl rfl rfl ?_))
            all_goals ((first | (refine G.gY rfl rfl ?_; refine G.op (og_callV rfl rfl (fun w _ => isPlace_any _ w)) rfl (fun _ _ => ?_)) | refine G.gN rfl rfl rfl ?_ | refine G.gU rfl rfl rfl ?_))
            all_goals ((first | (refine G.gY rfl rfl ?_; refine G.v (rv_not rfl) rfl ?_) | refine G.gN rfl rfl rfl ?_ | refine G.gU rfl rfl rfl ?_))
            all_goals ((first | refine G.v (rv_pickT rfl rfl) rfl ?_ | refine G.v (rv_pickF rfl rfl) rfl ?_))
            all_goals (refine G.v (rv_move rfl) rfl ?_)
            all_goals (((with_reducible refine G.gP rfl rfl (fun hg => ?_) (fun hg => ?_)) <;> (try exact Bool.noConfusion hg) <;> (first | (refine G.gY rfl rfl ?_; (first | refine G.v (rv_field rfl) rfl ?_ | refine G.v (rv_fieldE rfl) rfl ?_)) | refine G.gN rfl rfl rfl ?_ | refine G.gU rfl rfl rfl ?_)))
            all_goals ((first | (refine G.gY rfl rfl ?_; (first | refine G.v (rv_load1 0 rfl rfl rfl) rfl ?_ | refine G.v (rv_load1 1 rfl rfl rfl) rfl ?_ | refine G.v (rv_load1 2 rfl rfl rfl) rfl ?_ | refine G.v (rv_load1 3 rfl rfl rfl) rfl ?_)) | refine G.gN rfl rfl rfl ?_ | refine G.gU rfl rfl rfl ?_))
            all_goals ((first | (refine G.gY rfl rfl ?_; refine G.op (og_callV rfl rfl (fun w _ => isPlace_any _ w)) rfl (fun _ _ => ?_)) | refine G.gN rfl rfl rfl ?_ | refine G.gU rfl rfl rfl ?_))
            all_goals ((first | (refine G.gY rfl rfl ?_; refine G.v (rv_not rfl) rfl ?_) | refine G.gN rfl rfl rfl ?_ | refine G.gU rfl rfl rfl ?_))
            all_goals ((first | refine G.v (rv_pickT rfl rfl) rfl ?_ | refine G.v (rv_pickF rfl rfl) rfl ?_))
            all_goals (refine G.v (rv_move rfl) rfl ?_)
            all_goals (((with_reducible refine G.gP rfl rfl (fun hg => ?_) (fun hg => ?_)) <;> (try exact Bool.noConfusion hg) <;> (first | (refine G.gY rfl rfl ?_; (first | refine G.v (rv_field rfl) rfl ?_ | refine G.v (rv_fieldE rfl) rfl ?_)) | refine G.gN rfl rfl rfl ?_ | refine G.gU rfl rfl rfl ?_)))
            all_goals ((first | (refine G.gY rfl rfl ?_; (first | refine G.v (rv_load1 0 rfl rfl rfl) rfl ?_ | refine G.v (rv_load1 1 rfl rfl rfl) rfl ?_ | refine G.v (rv_load1 2 rfl rfl rfl) rfl ?_ | refine G.v (rv_load1 3 rfl rfl rfl) rfl ?_)) | refine G.gN rfl rfl rfl ?_ | refine G.gU rfl rfl rfl ?_))
            all_goals ((first | (refine G.gY rfl rfl ?_; refine G.op (og_callV rfl rfl (fun w _ => isPlace_any _ w)) rfl (fun _ _ => ?_)) | refine G.gN rfl rfl rfl ?_ | refine G.gU rfl rfl rfl ?_))
            all_goals ((first | (refine G.gY rfl rfl ?_; refine G.v (rv_not rfl) rfl ?_) | refine G.gN rfl rfl rfl ?_ | refine G.gU rfl rfl rfl ?_))
            all_goals ((first | refine G.v (rv_pickT rfl rfl) rfl ?_ | refine G.v (rv_pickF rfl rfl) rfl ?_))
            all_goals
             refine G.done (G.thenN ?_); refine G.cond rfl (fun hc => ?_) (fun hc => ?_)
             · try exact Bool.noConfusion hc
               all_goals
                try replace hc := of_decide_eq_true hc
                try (exfalso; first | contradiction | omega)
                all_goals
                 refine G.seq (G.region (G.v (rv_assign rfl) rfl (G.done (G.thenN (G.ret (G.inR (G.thenR (G.thenR (G.inR (G.thenR ?_))))))))))
                 first | exact G.retFV rfl rfl (congrArg Value.bool (planOk_yes ht hk hlt hlen (by omega))) | exact G.retFV rfl rfl (congrArg Value.bool (planOk_elt hlt (by rw [hpa, Bool.eq_false_iff]; (intro hh; simp_all; done)))) | exact G.retFV rfl rfl (congrArg Value.bool (planOk_many (by omega))) | exact G.retFV rfl rfl (congrArg Value.bool (planOk_len (by have := of_decide_eq_true hg; omega)))
             · try exact Bool.noConfusion hc
               all_goals
                try replace hc := of_decide_eq_false hc
                try (exfalso; first | contradiction | omega)
                all_goals
                 refine G.skip (G.inN (G.thenN (G.region ?_)))
                 (first | refine G.v (rv_incr rfl rfl (by omega)) rfl ?_ | refine G.v (rv_addB rfl rfl (by omega) (by omega)) rfl ?_)
                 refine G.v (rv_move rfl) rfl (G.done ?_)
                 first | refine G.backK (k + 1) 0 rfl (.cons rfl (.cons rfl (.cons rfl (.nil)))) ?_ ?_ ?_ | refine G.backK (k + 1) 1 rfl (.cons rfl (.cons rfl (.cons rfl (.nil)))) ?_ ?_ ?_ | refine G.backK (k + 1) 2 rfl (.cons rfl (.cons rfl (.cons rfl (.nil)))) ?_ ?_ ?_ | refine G.backK (k + 1) 3 rfl (.cons rfl (.cons rfl (.cons rfl (.nil)))) ?_ ?_ ?_
                 · exact ⟨rfl, trivial⟩
                 · exact ⟨hlt, range_next ht (by rw [hpa]; (simp_all; done))⟩
                 · omega
        · try exact Bool.noConfusion hc
          all_goals
           try replace hc := of_decide_eq_false hc
           try (exfalso; first | contradiction | omega)
           all_goals
            refine G.exit (G.thenX (G.thenX (G.inX (G.thenN (G.seq (G.region (G.v (rv_assign rfl) rfl (G.done (G.thenN (G.ret ?_))))))))))
            first | exact G.retFV rfl rfl (congrArg Value.bool (planOk_yes ht hk hlt hlen (by omega))) | exact G.retFV rfl rfl (congrArg Value.bool (planOk_elt hlt (by rw [hpa, Bool.eq_false_iff]; (intro hh; simp_all; done)))) | exact G.retFV rfl rfl (congrArg Value.bool (planOk_many (by omega))) | exact G.retFV rfl rfl (congrArg Value.bool (planOk_len (by have := of_decide_eq_true hg; omega)))

theorem specPlanOk_any {cv sv : Value} {cs : List (CartonM × Value)} {ss : List SpotM} (w : World) (h : Rd w cv 3 (cs.map CartonM.cells)) (hs : Subs w CartonM.l cs) (h3 : Rd w sv 4 (ss.map SpotM.cells)) : FnV Tryd.prog 23 [.agg [cv, sv].toArray] w (.bool (planOkM (cs.map Prod.fst) ss)) := by
  have hle := h.le_map
  have hln : (cs.map CartonM.cells).length = cs.length := by simp
  have hln2 : (ss.map SpotM.cells).length = ss.length := by simp
  refine FnV.of (n := 61) Tryd.func23 rfl rfl ?_; refine G.seq (G.region ?_); refine G.op (og_box rfl rfl) rfl (fun bk1 _ => ?_); refine G.v (rv_assign rfl) rfl (G.done (G.thenN (G.seq (G.seq (G.region ?_)))))
  (first | refine G.v (rv_field rfl) rfl ?_ | refine G.v (rv_fieldE rfl) rfl ?_)
  (first | refine G.v (rv_load1 0 rfl rfl rfl) rfl ?_ | refine G.v (rv_load1 1 rfl rfl rfl) rfl ?_ | refine G.v (rv_load1 2 rfl rfl rfl) rfl ?_ | refine G.v (rv_load1 3 rfl rfl rfl) rfl ?_)
  refine G.v (rv_len rfl (by first | exact Rd.stays (by assumption) | exact Rd.owned 0 rfl | exact Rd.owned 1 rfl | exact Rd.owned 2 rfl | exact Rd.owned 3 rfl)) rfl ?_
  (first | refine G.v (rv_field rfl) rfl ?_ | refine G.v (rv_fieldE rfl) rfl ?_)
  (first | refine G.v (rv_load1 0 rfl rfl rfl) rfl ?_ | refine G.v (rv_load1 1 rfl rfl rfl) rfl ?_ | refine G.v (rv_load1 2 rfl rfl rfl) rfl ?_ | refine G.v (rv_load1 3 rfl rfl rfl) rfl ?_)
  refine G.v (rv_len rfl (by first | exact Rd.stays (by assumption) | exact Rd.owned 0 rfl | exact Rd.owned 1 rfl | exact Rd.owned 2 rfl | exact Rd.owned 3 rfl)) rfl ?_; refine G.v (rv_neq rfl rfl) rfl (G.v (rv_move rfl) rfl ?_)
  all_goals (((with_reducible refine G.gP rfl rfl (fun hg => ?_) (fun hg => ?_)) <;> (try exact Bool.noConfusion hg) <;> (first | (refine G.gY rfl rfl ?_; (first | refine G.v (rv_field rfl) rfl ?_ | refine G.v (rv_fieldE rfl) rfl ?_)) | refine G.gN rfl rfl rfl ?_ | refine G.gU rfl rfl rfl ?_)))
  all_goals ((first | (refine G.gY rfl rfl ?_; (first | refine G.v (rv_load1 0 rfl rfl rfl) rfl ?_ | refine G.v (rv_load1 1 rfl rfl rfl) rfl ?_ | refine G.v (rv_load1 2 rfl rfl rfl) rfl ?_ | refine G.v (rv_load1 3 rfl rfl rfl) rfl ?_)) | refine G.gN rfl rfl rfl ?_ | refine G.gU rfl rfl rfl ?_))
  all_goals ((first | (refine G.gY rfl rfl ?_; refine G.v (rv_len rfl (by first | exact Rd.stays (by assumption) | exact Rd.owned 0 rfl | exact Rd.owned 1 rfl | exact Rd.owned 2 rfl | exact Rd.owned 3 rfl)) rfl ?_) | refine G.gN rfl rfl rfl ?_ | refine G.gU rfl rfl rfl ?_))
  all_goals ((first | (refine G.gY rfl rfl ?_; refine G.v (rv_gtr rfl rfl) rfl ?_) | refine G.gN rfl rfl rfl ?_ | refine G.gU rfl rfl rfl ?_))
  all_goals ((first | refine G.v (rv_pickT rfl rfl) rfl ?_ | refine G.v (rv_pickF rfl rfl) rfl ?_))
  all_goals
   refine G.done (G.thenN ?_); refine G.cond rfl (fun hc => ?_) (fun hc => ?_)
   · try exact Bool.noConfusion hc
     all_goals
      try replace hc := of_decide_eq_true hc
      try (exfalso; first | contradiction | omega)
      all_goals
       refine G.seq (G.region (G.v (rv_assign rfl) rfl (G.done (G.thenN (G.ret (G.thenR ?_))))))
       first | exact G.retFV rfl rfl (congrArg Value.bool (planOk_yes ht hk hlt hlen (by omega))) | exact G.retFV rfl rfl (congrArg Value.bool (planOk_elt hlt (by rw [hpa, Bool.eq_false_iff]; (intro hh; simp_all; done)))) | exact G.retFV rfl rfl (congrArg Value.bool (planOk_many (by omega))) | exact G.retFV rfl rfl (congrArg Value.bool (planOk_len (by have := of_decide_eq_true hg; omega)))
   · try exact Bool.noConfusion hc
     all_goals
      try replace hc := of_decide_eq_false hc
      try (exfalso; first | contradiction | omega)
      all_goals
       refine G.skip (G.thenN (G.seq (G.seq (G.region (G.v (rv_assign rfl) rfl (G.done (G.thenN (G.block ?_))))))))
       -- loop 0: turned [3], kept [1]
       have hlen : ss.length = cs.length := by have := of_decide_eq_false hg; omega
       refine G.loopK (ι := Nat) (ks := [1]) (fun k => [(3, .int .i64 k)]) (fun _ => []) (fun k => k ≤ cs.length ∧ (List.range k).all (planAt (cs.map Prod.fst) ss) = true) (fun k => cs.length - k) 0 (.cons rfl (.nil)) rfl ?_ ?_ ?_
       · exact ⟨Nat.zero_le _, rfl⟩
       · exact ⟨rfl, trivial⟩
       rintro k ⟨hk, ht⟩
       by_cases hlt : k < cs.length
       case' pos => (obtain ⟨b, hb⟩ := get_of_lt hlt; obtain ⟨s, hb2⟩ := get_of_lt (l := ss) (k := k) (by omega); have he := get_map hb CartonM.cells; have he2 := get_map hb2 SpotM.cells; have hov : b.2.oneCell' = true := (h.good _ (List.mem_of_getElem? he)).2 b.2 (by simp [CartonM.cells]); have hpa := planAt_eq hb hb2)
       all_goals
        refine G.seq (G.seq (G.region (G.v (rv_move rfl) rfl ?_)))
        (first | refine G.v (rv_field rfl) rfl ?_ | refine G.v (rv_fieldE rfl) rfl ?_)
        (first | refine G.v (rv_load1 0 rfl rfl rfl) rfl ?_ | refine G.v (rv_load1 1 rfl rfl rfl) rfl ?_ | refine G.v (rv_load1 2 rfl rfl rfl) rfl ?_ | refine G.v (rv_load1 3 rfl rfl rfl) rfl ?_)
        refine G.v (rv_len rfl (by first | exact Rd.stays (by assumption) | exact Rd.owned 0 rfl | exact Rd.owned 1 rfl | exact Rd.owned 2 rfl | exact Rd.owned 3 rfl)) rfl ?_; refine G.v (rv_lss rfl rfl) rfl (G.done (G.thenN ?_)); refine G.cond rfl (fun hc => ?_) (fun hc => ?_)
        · try exact Bool.noConfusion hc
          all_goals
           try replace hc := of_decide_eq_true hc
           try (exfalso; first | contradiction | omega)
           all_goals
            refine G.skip (G.thenN (G.seq (G.block (G.seq (G.region ?_)))))
            (first | refine G.v (rv_field rfl) rfl ?_ | refine G.v (rv_fieldE rfl) rfl ?_)
            (first | refine G.v (rv_load1 0 rfl rfl rfl) rfl ?_ | refine G.v (rv_load1 1 rfl rfl rfl) rfl ?_ | refine G.v (rv_load1 2 rfl rfl rfl) rfl ?_ | refine G.v (rv_load1 3 rfl rfl rfl) rfl ?_)
            refine G.v (rv_move rfl) rfl ?_
            (first | refine G.v (rv_indexH rfl rfl (by first | exact Rd.stays (by assumption) | exact Rd.owned 0 rfl | exact Rd.owned 1 rfl | exact Rd.owned 2 rfl | exact Rd.owned 3 rfl) rfl (by assumption)) rfl ?_ | refine G.v (rv_index rfl rfl (by first | exact Rd.stays (by assumption) | exact Rd.owned 0 rfl | exact Rd.owned 1 rfl | exact Rd.owned 2 rfl | exact Rd.owned 3 rfl) rfl (by assumption)) rfl ?_)
            (first | refine G.v (rv_loadEW rfl (by first | exact Rd.stays (by assumption) | exact Rd.owned 0 rfl | exact Rd.owned 1 rfl | exact Rd.owned 2 rfl | exact Rd.owned 3 rfl) (by assumption) rfl) rfl ?_ | refine G.v (rv_loadEP rfl (by first | exact Rd.stays (by assumption) | exact Rd.owned 0 rfl | exact Rd.owned 1 rfl | exact Rd.owned 2 rfl | exact Rd.owned 3 rfl) (by assumption) (.one (.one (.one (.one .nil))))) rfl ?_)
            refine G.op (og_alloc) rfl (fun bk4 _ => ?_)
            (first | refine G.op0 (og_st0 rfl rfl rfl rfl rfl rfl (.zero (.cons (.cons (.cons (.cons .nil)))))) (fun _ _ => ?_) | refine G.op0 (og_st1 rfl rfl rfl rfl rfl rfl (.zero (.cons (.cons (.cons (.cons .nil)))))) (fun _ _ => ?_) | refine G.op0 (og_st2 rfl rfl rfl rfl rfl rfl (.zero (.cons (.cons (.cons (.cons .nil)))))) (fun _ _ => ?_) | refine G.op0 (og_st3 rfl rfl rfl rfl rfl rfl (.zero (.cons (.cons (.cons (.cons .nil)))))) (fun _ _ => ?_))
            refine G.done (G.thenN (G.seq (G.region ?_)))
            (first | refine G.v (rv_field rfl) rfl ?_ | refine G.v (rv_fieldE rfl) rfl ?_)
            (first | refine G.v (rv_load1 0 rfl rfl rfl) rfl ?_ | refine G.v (rv_load1 1 rfl rfl rfl) rfl ?_ | refine G.v (rv_load1 2 rfl rfl rfl) rfl ?_ | refine G.v (rv_load1 3 rfl rfl rfl) rfl ?_)
            refine G.v (rv_move rfl) rfl ?_
            (first | refine G.v (rv_indexH rfl rfl (by first | exact Rd.stays (by assumption) | exact Rd.owned 0 rfl | exact Rd.owned 1 rfl | exact Rd.owned 2 rfl | exact Rd.owned 3 rfl) rfl (by assumption)) rfl ?_ | refine G.v (rv_index rfl rfl (by first | exact Rd.stays (by assumption) | exact Rd.owned 0 rfl | exact Rd.owned 1 rfl | exact Rd.owned 2 rfl | exact Rd.owned 3 rfl) rfl (by assumption)) rfl ?_)
            (first | refine G.v (rv_loadEW rfl (by first | exact Rd.stays (by assumption) | exact Rd.owned 0 rfl | exact Rd.owned 1 rfl | exact Rd.owned 2 rfl | exact Rd.owned 3 rfl) (by assumption) rfl) rfl ?_ | refine G.v (rv_loadEP rfl (by first | exact Rd.stays (by assumption) | exact Rd.owned 0 rfl | exact Rd.owned 1 rfl | exact Rd.owned 2 rfl | exact Rd.owned 3 rfl) (by assumption) (.one (.one (.one .nil)))) rfl ?_)
            refine G.op (og_callV rfl rfl (fun w hh => l13Carton_any _ w (Rd.stays (hs.at hb) _ hh))) rfl (fun _ _ => ?_); refine G.v (rv_not rfl) rfl (G.v (rv_move rfl) rfl ?_)
            all_goals (((with_reducible refine G.gP rfl rfl (fun hg => ?_) (fun hg => ?_)) <;> (try exact Bool.noConfusion hg) <;> (first | (refine G.gY rfl rfl ?_; (first | refine G.v (rv_field rfl) rfl ?_ | refine G.v (rv_fieldE rfl) rfl ?_)) | refine G.gN rfl rfl rfl ?_ | refine G.gU rfl rfl rfl ?_)))
            all_goals ((first | (refine G.gY rfl rfl ?_; (first | refine G.v (rv_load1 0 rfl rfl rfl) rfl ?_ | refine G.v (rv_load1 1 rfl rfl rfl) rfl ?_ | refine G.v (rv_load1 2 rfl rfl rfl) rfl ?_ | refine G.v (rv_load1 3 rfl rfl rfl) rfl ?_)) | refine G.gN rfl rfl rfl ?_ | refine G.gU rfl rfl rfl ?_))
            all_goals ((first | (refine G.gY rfl rfl ?_; refine G.op (og_callV rfl rfl (fun w _ => l1In_any _ _ _ w)) rfl (fun _ _ => ?_)) | refine G.gN rfl rfl rfl ?_ | refine G.gU rfl rfl rfl ?_))
            all_goals ((first | (refine G.gY rfl rfl ?_; refine G.v (rv_not rfl) rfl ?_) | refine G.gN rfl rfl rfl ?_ | refine G.gU rfl rfl rfl ?_))
            all_goals ((first | refine G.v (rv_pickT rfl rfl) rfl ?_ | refine G.v (rv_pickF rfl rfl) rfl ?_))
            all_goals (refine G.v (rv_move rfl) rfl ?_)
            all_goals (((with_reducible refine G.gP rfl rfl (fun hg => ?_) (fun hg => ?_)) <;> (try exact Bool.noConfusion hg) <;> (first | (refine G.gY rfl rfl ?_; (first | refine G.v (rv_field rfl) rfl ?_ | refine G.v (rv_fieldE rfl) rfl ?_)) | refine G.gN rfl rfl rfl ?_ | refine G.gU rfl rfl rfl ?_)))
            all_goals ((first | (refine G.gY rfl rfl ?_; (first | refine G.v (rv_load1 0 rfl rfl rfl) rfl ?_ | refine G.v (rv_load1 1 rfl rfl rfl) rfl ?_ | refine G.v (rv_load1 2 rfl rfl rfl) rfl ?_ | refine G.v (rv_load1 3 rfl rfl rfl) rfl ?_)) | refine G.gN rfl rfl rfl ?_ | refine G.gU rfl rfl rfl ?_))
            all_goals ((first | (refine G.gY rfl rfl ?_; refine G.op (og_callV rfl rfl (fun w _ => l1In_any _ _ _ w)) rfl (fun _ _ => ?_)) | refine G.gN rfl rfl rfl ?_ | refine G.gU rfl rfl rfl ?_))
            all_goals ((first | (refine G.gY rfl rfl ?_; refine G.v (rv_not rfl) rfl ?_) | refine G.gN rfl rfl rfl ?_ | refine G.gU rfl rfl rfl ?_))
            all_goals ((first | refine G.v (rv_pickT rfl rfl) rfl ?_ | refine G.v (rv_pickF rfl rfl) rfl ?_))
            all_goals (refine G.v (rv_move rfl) rfl ?_)
            all_goals (((with_reducible refine G.gP rfl rfl (fun hg => ?_) (fun hg => ?_)) <;> (try exact Bool.noConfusion hg) <;> (first | (refine G.gY rfl rfl ?_; (first | refine G.v (rv_field rfl) rfl ?_ | refine G.v (rv_fieldE rfl) rfl ?_)) | refine G.gN rfl rfl rfl ?_ | refine G.gU rfl rfl rfl ?_)))
            all_goals ((first | (refine G.gY rfl rfl ?_; (first | refine G.v (rv_load1 0 rfl rfl rfl) rfl ?_ | refine G.v (rv_load1 1 rfl rfl rfl) rfl ?_ | refine G.v (rv_load1 2 rfl rfl rfl) rfl ?_ | refine G.v (rv_load1 3 rfl rfl rfl) rfl ?_)) | refine G.gN rfl rfl rfl ?_ | refine G.gU rfl rfl rfl ?_))
            all_goals ((first | (refine G.gY rfl rfl ?_; refine G.op (og_callV rfl rfl (fun w _ => l1In_any _ _ _ w)) rfl (fun _ _ => ?_)) | refine G.gN rfl rfl rfl ?_ | refine G.gU rfl rfl rfl ?_))
            all_goals ((first | (refine G.gY rfl rfl ?_; refine G.v (rv_not rfl) rfl ?_) | refine G.gN rfl rfl rfl ?_ | refine G.gU rfl rfl rfl ?_))
            all_goals ((first | refine G.v (rv_pickT rfl rfl) rfl ?_ | refine G.v (rv_pickF rfl rfl) rfl ?_))
            all_goals (refine G.v (rv_move rfl) rfl ?_)
            all_goals (((with_reducible refine G.gP rfl rfl (fun hg => ?_) (fun hg => ?_)) <;> (try exact Bool.noConfusion hg) <;> (first | (refine G.gY rfl rfl ?_; (first | refine G.v (rv_field rfl) rfl ?_ | refine G.v (rv_fieldE rfl) rfl ?_)) | refine G.gN rfl rfl rfl ?_ | refine G.gU rfl rfl rfl ?_)))
            all_goals ((first | (refine G.gY rfl rfl ?_; (first | refine G.v (rv_load1 0 rfl rfl rfl) rfl ?_ | refine G.v (rv_load1 1 rfl rfl rfl) rfl ?_ | refine G.v (rv_load1 2 rfl rfl rfl) rfl ?_ | refine G.v (rv_load1 3 rfl rfl rfl) rfl ?_)) | refine G.gN rfl rfl rfl ?_ | refine G.gU rfl rfl rfl ?_))
            all_goals ((first | (refine G.gY rfl rfl ?_; refine G.op (og_callV rfl rfl (fun w _ => l1In_any _ _ _ w)) rfl (fun _ _ => ?_)) | refine G.gN rfl rfl rfl ?_ | refine G.gU rfl rfl rfl ?_))
            all_goals ((first | (refine G.gY rfl rfl ?_; refine G.v (rv_not rfl) rfl ?_) | refine G.gN rfl rfl rfl ?_ | refine G.gU rfl rfl rfl ?_))
            all_goals ((first | refine G.v (rv_pickT rfl rfl) rfl ?_ | refine G.v (rv_pickF rfl rfl) rfl ?_))
            all_goals
             refine G.done (G.thenN ?_); refine G.cond rfl (fun hc => ?_) (fun hc => ?_)
             · try exact Bool.noConfusion hc
               all_goals
                try replace hc := of_decide_eq_true hc
                try (exfalso; first | contradiction | omega)
                all_goals
                 refine G.seq (G.region (G.v (rv_assign rfl) rfl (G.done (G.thenN (G.ret (G.inR (G.thenR (G.thenR (G.inR (G.thenR ?_))))))))))
                 first | exact G.retFV rfl rfl (congrArg Value.bool (planOk_yes ht hk hlt hlen (by omega))) | exact G.retFV rfl rfl (congrArg Value.bool (planOk_elt hlt (by rw [hpa, Bool.eq_false_iff]; (intro hh; simp_all; done)))) | exact G.retFV rfl rfl (congrArg Value.bool (planOk_many (by omega))) | exact G.retFV rfl rfl (congrArg Value.bool (planOk_len (by have := of_decide_eq_true hg; omega)))
             · try exact Bool.noConfusion hc
               all_goals
                try replace hc := of_decide_eq_false hc
                try (exfalso; first | contradiction | omega)
                all_goals
                 refine G.skip (G.inN (G.thenN (G.region (G.v (rv_move rfl) rfl ?_))))
                 (first | refine G.v (rv_incr rfl rfl (by omega)) rfl ?_ | refine G.v (rv_addB rfl rfl (by omega) (by omega)) rfl ?_)
                 refine G.v (rv_assign rfl) rfl (G.done ?_)
                 first | refine G.backK (k + 1) 0 rfl (.cons rfl (.nil)) ?_ ?_ ?_ | refine G.backK (k + 1) 1 rfl (.cons rfl (.nil)) ?_ ?_ ?_ | refine G.backK (k + 1) 2 rfl (.cons rfl (.nil)) ?_ ?_ ?_ | refine G.backK (k + 1) 3 rfl (.cons rfl (.nil)) ?_ ?_ ?_
                 · exact ⟨rfl, trivial⟩
                 · exact ⟨hlt, range_next ht (by rw [hpa]; (simp_all; done))⟩
                 · omega
        · try exact Bool.noConfusion hc
          all_goals
           try replace hc := of_decide_eq_false hc
           try (exfalso; first | contradiction | omega)
           all_goals
            refine G.exit (G.thenX (G.thenX (G.inX (G.thenN (G.seq (G.region (G.v (rv_assign rfl) rfl (G.done (G.thenN (G.ret ?_))))))))))
            first | exact G.retFV rfl rfl (congrArg Value.bool (planOk_yes ht hk hlt hlen (by omega))) | exact G.retFV rfl rfl (congrArg Value.bool (planOk_elt hlt (by rw [hpa, Bool.eq_false_iff]; (intro hh; simp_all; done)))) | exact G.retFV rfl rfl (congrArg Value.bool (planOk_many (by omega))) | exact G.retFV rfl rfl (congrArg Value.bool (planOk_len (by have := of_decide_eq_true hg; omega)))

theorem eqPlan_any {cv sv cv' sv' : Value} {cs cs' : List (CartonM × Value)} {ss ss' : List SpotM} (w : World) (h : Rd w cv 3 (cs.map CartonM.cells)) (hs : Subs w CartonM.l cs) (h3 : Rd w sv 4 (ss.map SpotM.cells))
    (h' : Rd w cv' 3 (cs'.map CartonM.cells)) (hs' : Subs w CartonM.l cs') (h3' : Rd w sv' 4 (ss'.map SpotM.cells)) :
    FnV Tryd.prog 10 [.agg [cv, sv].toArray, .agg [cv', sv'].toArray] w (.bool (decide (cs.map Prod.fst = cs'.map Prod.fst) && decide (ss = ss'))) := by
  refine FnV.of (n := 17) Tryd.func10 rfl rfl ?_; refine G.seq (G.region ?_); refine G.op (og_box rfl rfl) rfl (fun bk2 _ => ?_); refine G.op (og_box rfl rfl) rfl (fun bk3 _ => ?_); refine G.v (rv_assign rfl) rfl (G.done (G.thenN (G.seq (G.seq (G.region ?_)))))
  (first | refine G.v (rv_field rfl) rfl ?_ | refine G.v (rv_fieldE rfl) rfl ?_)
  (first | refine G.v (rv_load1 0 rfl rfl rfl) rfl ?_ | refine G.v (rv_load1 1 rfl rfl rfl) rfl ?_)
  (first | refine G.v (rv_field rfl) rfl ?_ | refine G.v (rv_fieldE rfl) rfl ?_)
  (first | refine G.v (rv_load1 0 rfl rfl rfl) rfl ?_ | refine G.v (rv_load1 1 rfl rfl rfl) rfl ?_)
  refine G.op (og_callV rfl rfl (fun w hh => eqCartonS_any w (Rd.stays h _ hh) (Subs.stays hs _ hh) (Rd.stays h' _ hh) (Subs.stays hs' _ hh))) rfl (fun _ _ => ?_); refine G.v (rv_not rfl) rfl (G.done (G.thenN ?_)); refine G.cond rfl (fun hc => ?_) (fun hc => ?_)
  · try exact Bool.noConfusion hc
    all_goals
     try replace hc := of_decide_eq_true hc
     try (exfalso; first | contradiction | omega)
     all_goals
      refine G.seq (G.region (G.v (rv_assign rfl) rfl (G.done (G.thenN (G.ret (G.thenR ?_)))))); refine G.retFV rfl rfl (congrArg Value.bool ?_); simp_all
  · try exact Bool.noConfusion hc
    all_goals
     try replace hc := of_decide_eq_false hc
     try (exfalso; first | contradiction | omega)
     all_goals
      refine G.skip (G.thenN (G.seq (G.seq (G.region ?_))))
      (first | refine G.v (rv_field rfl) rfl ?_ | refine G.v (rv_fieldE rfl) rfl ?_)
      (first | refine G.v (rv_load1 0 rfl rfl rfl) rfl ?_ | refine G.v (rv_load1 1 rfl rfl rfl) rfl ?_)
      (first | refine G.v (rv_field rfl) rfl ?_ | refine G.v (rv_fieldE rfl) rfl ?_)
      (first | refine G.v (rv_load1 0 rfl rfl rfl) rfl ?_ | refine G.v (rv_load1 1 rfl rfl rfl) rfl ?_)
      refine G.op (og_callV rfl rfl (fun w hh => eqSpotS_any w (Rd.stays h3 _ hh) (Rd.stays h3' _ hh))) rfl (fun _ _ => ?_); refine G.v (rv_not rfl) rfl (G.done (G.thenN ?_)); refine G.cond rfl (fun hc => ?_) (fun hc => ?_)
      · try exact Bool.noConfusion hc
        all_goals
         try replace hc := of_decide_eq_true hc
         try (exfalso; first | contradiction | omega)
         all_goals
          refine G.seq (G.region (G.v (rv_assign rfl) rfl (G.done (G.thenN (G.ret (G.thenR ?_)))))); refine G.retFV rfl rfl (congrArg Value.bool ?_); simp_all
      · try exact Bool.noConfusion hc
        all_goals
         try replace hc := of_decide_eq_false hc
         try (exfalso; first | contradiction | omega)
         all_goals
          refine G.skip (G.thenN (G.seq (G.region (G.v (rv_assign rfl) rfl (G.done (G.thenN (G.ret ?_))))))); refine G.retFV rfl rfl (congrArg Value.bool ?_); simp_all
end Go.Proofs.YtnfokjlplbbbeaaDoor

/-
  The text of a plan, and what is read of it.
-/
namespace Go.Proofs.YtnfokjlplbbbeaaDoor
open Go.Lib
abbrev wCarton : List UInt8 := [99, 97, 114, 116, 111, 110]
def lineNs (c : CartonM) (s : SpotM) : List Int := [c.t, c.g, s.p, s.x, s.y, s.z] ++ c.l
def rowT (c : CartonM) (s : SpotM) : List UInt8 := lineT wCarton (lineNs c s)
/-- The lines of cartons and their places. -/
def rowsP (cs : List CartonM) (ss : List SpotM) : List (List UInt8) := (cs.zip ss).map fun x => rowT x.1 x.2
def linesP (ls : List (List UInt8)) : List UInt8 := ls.flatMap (· ++ [10])
def planTextM (cs : List CartonM) (ss : List SpotM) : List UInt8 := if planOkM cs ss then linesP (rowsP cs ss) else []
/-- Numbers put behind a line. -/
def tailT (ns : List Int) : List UInt8 := ns.flatMap fun n => 32 :: itoa n
theorem lineT_tail (w : List UInt8) : ∀ ns, lineT w ns = w ++ tailT ns
  | [] => by rw [lineT, tailT, List.map_nil, joinM]; simp
  | n :: ns => by
    rw [lineT, List.map_cons, joinM, tailT, List.flatMap_cons]
    have := lineT_tail (itoa n) ns
    rw [lineT] at this
    rw [this, tailT]; simp
theorem tail_next {ns : List Int} {k : Nat} {n : Int} (h : ns[k]? = some n) : tailT (ns.take (k + 1)) = tailT (ns.take k) ++ 32 :: itoa n := by
  rw [tailT, tailT, List.take_add_one, h, List.flatMap_append]; simp
theorem tail_len {ns : List Int} (h : ∀ n ∈ ns, okN n) : (tailT ns).length ≤ 7 * ns.length := by
  induction ns with
  | nil => simp [tailT]
  | cons n ns ih =>
    have h1 := h n List.mem_cons_self
    have h2 := ih (fun m hm => h m (List.mem_cons_of_mem _ hm))
    have h3 : (itoa n).length ≤ 6 := by
      have := number_mk h1.1 h1.2
      rw [numberM] at this
      split at this
      · rename_i hh; exact hh.2.1
      · cases (Prod.mk.inj this).2
    rw [tailT] at h2 ⊢
    simp only [List.flatMap_cons, List.length_append, List.length_cons] at h2 ⊢
    omega
/-! ### A right plan's numbers -/
theorem planOk_at {cs : List CartonM} {ss : List SpotM} (h : planOkM cs ss = true) {k : Nat} {c : CartonM} {s : SpotM} (hc : cs[k]? = some c) (hs : ss[k]? = some s) : ((inB c.t 0 999 && inB c.g 0 3 && upM c.l) && inB s.p 0 2000 && inB s.x 0 2000 && inB s.y 0 2000 && inB s.z 0 2000) = true := by
  rw [planOkM, Bool.and_eq_true, List.all_eq_true] at h
  have := h.2 k (List.mem_range.2 (List.getElem?_eq_some_iff.1 hc).1)
  rwa [planAt, hc, hs] at this
theorem up_ok {l : List Int} (h : upM l = true) : (∀ n ∈ l, 0 ≤ n ∧ n ≤ 999) ∧ l.length ≤ 100 := by
  rw [upM, Bool.and_eq_true, decide_eq_true_eq, List.all_eq_true] at h
  refine ⟨fun n hn => ?_, h.1⟩
  obtain ⟨k, hk, rfl⟩ := List.getElem_of_mem hn
  have := h.2 k (List.mem_range.2 hk)
  rw [upAt, List.getElem?_eq_getElem hk] at this
  dsimp only at this
  rw [Bool.and_eq_true, inB, Bool.and_eq_true, decide_eq_true_eq, decide_eq_true_eq] at this
  exact this.1
theorem planOk_nums {cs : List CartonM} {ss : List SpotM} (h : planOkM cs ss = true) {k : Nat} {c : CartonM} {s : SpotM} (hc : cs[k]? = some c) (hs : ss[k]? = some s) : (∀ n ∈ lineNs c s, okN n) ∧ c.l.length ≤ 100 := by
  have h1 := planOk_at h hc hs
  simp only [inB, Bool.and_eq_true, decide_eq_true_eq] at h1
  obtain ⟨⟨⟨⟨⟨⟨g1, g2⟩, g3⟩, g4⟩, g5⟩, g6⟩, g7⟩ := h1
  obtain ⟨u1, u2⟩ := up_ok g3
  refine ⟨fun n hn => ?_, u2⟩
  simp only [lineNs, List.mem_append, List.mem_cons, List.not_mem_nil, or_false] at hn
  rcases hn with (rfl | rfl | rfl | rfl | rfl | rfl) | hn
  all_goals first | (constructor <;> omega) | (have := u1 n hn; constructor <;> omega)
/-! ### Reading -/
def cartonOf (ns : List Int) : CartonM := ⟨at0 ns 0, at0 ns 1, ns.drop 6⟩
def spotOf (ns : List Int) : SpotM := ⟨at0 ns 2, at0 ns 3, at0 ns 4, at0 ns 5⟩
def okLine (ns : List Int) : Bool := decide (6 ≤ ns.length) && planOkM [cartonOf ns] [spotOf ns]
/-- The numbers of a carton's line. -/
def lineM (l : List UInt8) : Option (List Int) := match partsM 32 l with
  | p :: ps => if p = wCarton then match numsM ps with
    | some ns => if okLine ns then some ns else none
    | none => none else none
  | [] => none
theorem nums_back : ∀ {ps : List (List UInt8)} {ns : List Int}, numsM ps = some ns → ps = ns.map itoa ∧ ∀ n ∈ ns, okN n
  | [], ns, h => by rw [numsM] at h; rw [← Option.some.inj h]; exact ⟨rfl, fun n hn => absurd hn List.not_mem_nil⟩
  | p :: ps, ns, h => by
    rw [numsM] at h
    split at h
    · rename_i hp
      obtain ⟨ms, hm, rfl⟩ := Option.map_eq_some_iff.1 h
      obtain ⟨i1, i2⟩ := nums_back hm
      obtain ⟨a1, a2, a3⟩ := number_ok (l := p) (n := (numberM p).1) (by rw [← hp])
      refine ⟨by rw [List.map_cons, a3, ← i1], fun n hn => ?_⟩
      rcases List.mem_cons.1 hn with rfl | hn
      · exact ⟨a1, a2⟩
      · exact i2 n hn
    · cases h
theorem lineNs_of {ns : List Int} (h : 6 ≤ ns.length) : lineNs (cartonOf ns) (spotOf ns) = ns := by
  match ns, h with
  | a :: b :: c :: d :: e :: f :: r, _ => rfl
/-- Whether a line is told just so: the word alone is to be held. -/
theorem line_same {l p : List UInt8} {ps : List (List UInt8)} {ns : List Int} (hp : partsM 32 l = p :: ps) (hn : numsM ps = some ns) (h6 : 6 ≤ ns.length) : rowT (cartonOf ns) (spotOf ns) = l ↔ p = wCarton := by
  have e1 := join_parts 32 l
  rw [hp, (nums_back hn).1] at e1
  rw [rowT, lineNs_of h6, lineT, ← e1]
  exact ⟨fun h => (join_inj h).symm, fun h => by rw [h]⟩
/-- What is read of a text of lines; none: it is no plan's. -/
def linesM : List (List UInt8) → Option (List (List Int))
  | [] => some []
  | l :: ls => match lineM l with
    | some ns => (linesM ls).map (ns :: ·)
    | none => none
def readPM (s : List UInt8) : Option (List (List Int)) :=
  let ls := partsM 10 s
  if ls.length - 1 ≤ 100 ∧ ls.getLast? = some [] then linesM (ls.take (ls.length - 1)) else none
theorem lines_next {ls : List (List UInt8)} {k : Nat} {l : List UInt8} {xs : List (List Int)} {ns : List Int} (hk : ls[k]? = some l) (h : linesM (ls.take k) = some xs) (hl : lineM l = some ns) : linesM (ls.take (k + 1)) = some (xs ++ [ns]) := by
  rw [List.take_add_one, hk]
  have : ∀ (a : List (List UInt8)) (xs : List (List Int)), linesM a = some xs → linesM (a ++ [l]) = some (xs ++ [ns]) := by
    intro a
    induction a with
    | nil => intro xs h; rw [linesM] at h; rw [← Option.some.inj h]; simp [linesM, hl]
    | cons b a ih =>
      intro xs h
      rw [linesM] at h
      rw [List.cons_append, linesM]
      cases hb : lineM b with
      | none => rw [hb] at h; cases h
      | some m =>
        rw [hb] at h
        obtain ⟨ys, hy, rfl⟩ := Option.map_eq_some_iff.1 h
        dsimp only
        rw [ih ys hy]; rfl
  exact this _ _ h
theorem lines_no : ∀ {ls : List (List UInt8)} {l : List UInt8}, l ∈ ls → lineM l = none → linesM ls = none
  | [], _, h, _ => absurd h List.not_mem_nil
  | b :: ls, l, h, hl => by
    rw [linesM]
    rcases List.mem_cons.1 h with rfl | h
    · rw [hl]
    · cases lineM b with
      | none => rfl
      | some m => dsimp only; rw [lines_no h hl]; rfl
theorem lines_len : ∀ {ls : List (List UInt8)} {xs : List (List Int)}, linesM ls = some xs → xs.length = ls.length
  | [], xs, h => by rw [linesM] at h; rw [← Option.some.inj h]; rfl
  | l :: ls, xs, h => by
    rw [linesM] at h
    cases hb : lineM l with
    | none => rw [hb] at h; cases h
    | some m =>
      rw [hb] at h
      obtain ⟨ys, hy, rfl⟩ := Option.map_eq_some_iff.1 h
      rw [List.length_cons, List.length_cons, lines_len hy]
theorem lines_ok : ∀ {ls : List (List UInt8)} {xs : List (List Int)}, linesM ls = some xs → ∀ ns ∈ xs, okLine ns = true
  | [], xs, h => by rw [linesM] at h; rw [← Option.some.inj h]; exact fun n hn => absurd hn List.not_mem_nil
  | l :: ls, xs, h => by
    rw [linesM] at h
    cases hb : lineM l with
    | none => rw [hb] at h; cases h
    | some m =>
      rw [hb] at h
      obtain ⟨ys, hy, rfl⟩ := Option.map_eq_some_iff.1 h
      intro ns hn
      rcases List.mem_cons.1 hn with rfl | hn
      · rw [lineM] at hb
        split at hb
        · split at hb
          · split at hb
            · split at hb
              · rename_i hk; rw [← Option.some.inj hb]; exact hk
              · cases hb
            · cases hb
          · cases hb
        · cases hb
      · exact lines_ok hy ns hn
/-- Lines that are each right make a right plan, if there are no more than a hundred. -/
theorem lines_plan {xs : List (List Int)} (h : ∀ ns ∈ xs, okLine ns = true) : planOkM (xs.map cartonOf) (xs.map spotOf) = decide (xs.length ≤ 100) := by
  rw [planOkM, List.length_map, List.length_map, decide_eq_true rfl, Bool.true_and]
  have : (List.range xs.length).all (planAt (xs.map cartonOf) (xs.map spotOf)) = true := by
    rw [List.all_eq_true]
    intro k hk
    rw [List.mem_range] at hk
    have h1 := h _ (List.getElem_mem hk)
    rw [okLine, Bool.and_eq_true] at h1
    have h2 := planOk_at h1.2 (k := 0) (c := cartonOf xs[k]) (s := spotOf xs[k]) rfl rfl
    rw [planAt, List.getElem?_map, List.getElem?_map, List.getElem?_eq_getElem hk]
    exact h2
  rw [this, Bool.and_true]
end Go.Proofs.YtnfokjlplbbbeaaDoor

/-
  Lines told, and plans told: both ways; lines taken apart.
-/
namespace Go.Proofs.YtnfokjlplbbbeaaDoor
open Go.RowKit Go.Lib
theorem itoa_len6 {n : Int} (h : okN n) : (itoa n).length ≤ 6 := by
  have := number_mk h.1 h.2
  rw [numberM] at this
  split at this
  · rename_i hh; exact hh.2.1
  · cases (Prod.mk.inj this).2
theorem tail_take {ns : List Int} (h : ∀ n ∈ ns, okN n) (k : Nat) : (tailT (ns.take k)).length ≤ 7 * k := by
  have h1 := tail_len (ns := ns.take k) (fun n hn => h n (List.mem_of_mem_take hn))
  rw [List.length_take] at h1; omega
attribute [local irreducible] Go.wpList Go.Code.wp Go.Exit.then Go.Exit.inBlock Go.bodyPost Go.Calls pE pB G RunsV FnV Fn FnM
set_option maxRecDepth 100000
set_option maxHeartbeats 4000000
theorem sdigitsZ_any {z : Int} (h : okN z) (w : World) : FnV Tryd.prog 45 [.int .i64 z] w (sv (itoa z)) := by
  have h0 := h.1
  have h1 := h.2
  obtain ⟨u, rfl⟩ := Int.eq_ofNat_of_zero_le h0
  rw [itoa_nonneg]
  exact sdigits_any (by omega) w
theorem l14Line_any (c : CartonM × Value) (s : SpotM) (hok : ∀ n ∈ lineNs c.1 s, okN n) (hl : c.1.l.length ≤ 100) (w : World) (h : Rd w c.2 1 (c.1.l.map icell)) : FnV Tryd.prog 24 [.agg (CartonM.cells c).toArray, s.val] w (sv (rowT c.1 s)) := by
  have hln : (c.1.l.map icell).length = c.1.l.length := List.length_map ..
  have hov : c.2.oneCell' = true := h.one_
  have hns : (lineNs c.1 s).length = 6 + c.1.l.length := (by rw [lineNs, List.length_append]; rfl)
  obtain ⟨⟨ct, cg, cl⟩, cv⟩ := c
  obtain ⟨sp, sx, sy, sz⟩ := s
  dsimp only at hln hov hl h hns
  refine FnV.of (n := 39) Tryd.func24 rfl rfl ?_; refine G.seq (G.region ?_); refine G.op (og_box rfl rfl) rfl (fun bk2 _ => ?_); refine G.op (og_box rfl rfl) rfl (fun bk3 _ => ?_); refine G.v (rv_assign rfl) rfl (G.done (G.thenN (G.seq (G.region (G.v (rv_assign rfl) rfl (G.done (G.thenN (G.seq (G.region ?_)))))))))
  (first | refine G.v (rv_field rfl) rfl ?_ | refine G.v (rv_fieldE rfl) rfl ?_)
  (first | refine G.v (rv_load1 0 rfl rfl rfl) rfl ?_ | refine G.v (rv_load1 1 rfl rfl rfl) rfl ?_ | refine G.v (rv_load1 2 rfl rfl rfl) rfl ?_ | refine G.v (rv_load1 3 rfl rfl rfl) rfl ?_)
  (first | refine G.v (rv_field rfl) rfl ?_ | refine G.v (rv_fieldE rfl) rfl ?_)
  (first | refine G.v (rv_load1 0 rfl rfl rfl) rfl ?_ | refine G.v (rv_load1 1 rfl rfl rfl) rfl ?_ | refine G.v (rv_load1 2 rfl rfl rfl) rfl ?_ | refine G.v (rv_load1 3 rfl rfl rfl) rfl ?_)
  (first | refine G.v (rv_field rfl) rfl ?_ | refine G.v (rv_fieldE rfl) rfl ?_)
  (first | refine G.v (rv_load1 0 rfl rfl rfl) rfl ?_ | refine G.v (rv_load1 1 rfl rfl rfl) rfl ?_ | refine G.v (rv_load1 2 rfl rfl rfl) rfl ?_ | refine G.v (rv_load1 3 rfl rfl rfl) rfl ?_)
  (first | refine G.v (rv_field rfl) rfl ?_ | refine G.v (rv_fieldE rfl) rfl ?_)
  (first | refine G.v (rv_load1 0 rfl rfl rfl) rfl ?_ | refine G.v (rv_load1 1 rfl rfl rfl) rfl ?_ | refine G.v (rv_load1 2 rfl rfl rfl) rfl ?_ | refine G.v (rv_load1 3 rfl rfl rfl) rfl ?_)
  (first | refine G.v (rv_field rfl) rfl ?_ | refine G.v (rv_fieldE rfl) rfl ?_)
  (first | refine G.v (rv_load1 0 rfl rfl rfl) rfl ?_ | refine G.v (rv_load1 1 rfl rfl rfl) rfl ?_ | refine G.v (rv_load1 2 rfl rfl rfl) rfl ?_ | refine G.v (rv_load1 3 rfl rfl rfl) rfl ?_)
  (first | refine G.v (rv_field rfl) rfl ?_ | refine G.v (rv_fieldE rfl) rfl ?_)
  (first | refine G.v (rv_load1 0 rfl rfl rfl) rfl ?_ | refine G.v (rv_load1 1 rfl rfl rfl) rfl ?_ | refine G.v (rv_load1 2 rfl rfl rfl) rfl ?_ | refine G.v (rv_load1 3 rfl rfl rfl) rfl ?_)
  refine G.op (og_lit rfl (.cons rfl (.cons rfl (.cons rfl (.cons rfl (.cons rfl (.cons rfl .nil)))))) rfl rfl rfl rfl rfl rfl) rfl (fun vl _ => ?_)
  (first | refine G.v (rv_field rfl) rfl ?_ | refine G.v (rv_fieldE rfl) rfl ?_)
  (first | refine G.v (rv_load1 0 rfl rfl rfl) rfl ?_ | refine G.v (rv_load1 1 rfl rfl rfl) rfl ?_ | refine G.v (rv_load1 2 rfl rfl rfl) rfl ?_ | refine G.v (rv_load1 3 rfl rfl rfl) rfl ?_)
  (first | refine G.op (og_app0 rfl rfl rfl (by first | exact Rd.stays (by assumption) | exact Rd.owned 0 rfl | exact Rd.owned 1 rfl | exact Rd.owned 2 rfl | exact Rd.owned 3 rfl) rfl rfl (by first | (simp; done) | (simp; omega)) (by first | (simp; done) | (simp; omega))) rfl (fun va _ => ?_) | refine G.op (og_app1 rfl rfl rfl (by first | exact Rd.stays (by assumption) | exact Rd.owned 0 rfl | exact Rd.owned 1 rfl | exact Rd.owned 2 rfl | exact Rd.owned 3 rfl) rfl rfl (by first | (simp; done) | (simp; omega)) (by first | (simp; done) | (simp; omega))) rfl (fun va _ => ?_) | refine G.op (og_app2 rfl rfl rfl (by first | exact Rd.stays (by assumption) | exact Rd.owned 0 rfl | exact Rd.owned 1 rfl | exact Rd.owned 2 rfl | exact Rd.owned 3 rfl) rfl rfl (by first | (simp; done) | (simp; omega)) (by first | (simp; done) | (simp; omega))) rfl (fun va _ => ?_) | refine G.op (og_app3 rfl rfl rfl (by first | exact Rd.stays (by assumption) | exact Rd.owned 0 rfl | exact Rd.owned 1 rfl | exact Rd.owned 2 rfl | exact Rd.owned 3 rfl) rfl rfl (by first | (simp; done) | (simp; omega)) (by first | (simp; done) | (simp; omega))) rfl (fun va _ => ?_))
  refine G.v (rv_assign rfl) rfl (G.done (G.thenN (G.seq (G.seq (G.region (G.v (rv_assign rfl) rfl (G.done (G.thenN (G.block ?_)))))))))
  -- loop 0: turned [5, 7], kept [6]
  generalize hN : lineNs ⟨ct, cg, cl⟩ ⟨sp, sx, sy, sz⟩ = ns at hok hns
  (first | refine G.frontR0 va rfl ?_ | refine G.frontR1 va rfl ?_ | refine G.frontR2 va rfl ?_ | refine G.frontR3 va rfl ?_ | refine G.frontR4 va rfl ?_ | refine G.frontR5 va rfl ?_ | refine G.frontR6 va rfl ?_ | refine G.frontR7 va rfl ?_ | refine G.frontR8 va rfl ?_ | refine G.frontR9 va rfl ?_ | refine G.frontR10 va rfl ?_ | refine G.frontR11 va rfl ?_ | refine G.frontR12 va rfl ?_ | refine G.frontR13 va rfl ?_)
  refine G.rowEq (ns.map icell) (by rw [← hN, lineNs, List.map_append]; rfl) rfl ?_
  have hln2 : (ns.map icell).length = ns.length := List.length_map ..
  refine G.loopK (ι := Nat) (ks := [6]) (fun k => [(5, sv (wCarton ++ tailT (ns.take k))), (7, .int .i64 (k : Int))]) (fun _ => [.row va 3 1 (ns.map icell)]) (fun k => k ≤ ns.length) (fun k => ns.length - k) 0 (.cons rfl (.nil)) rfl ?_ ?_ ?_
  · exact Nat.zero_le _
  · exact ⟨congrArg (fun l => some (sv l)) (show wCarton = wCarton ++ tailT (ns.take 0) by simp [tailT]), rfl, trivial⟩
  rintro k hk
  have htl := tail_take hok k
  by_cases hlt : k < ns.length
  case' pos => (obtain ⟨z, hz⟩ := get_of_lt hlt; have he := get_map hz icell; have hnz := hok z (List.mem_of_getElem? hz); have hi6 := itoa_len6 hnz; have htn := tail_next hz)
  all_goals
   refine G.seq (G.seq (G.region (G.v (rv_move rfl) rfl (G.v (rv_move rfl) rfl ?_)))); refine G.v (rv_len rfl (by first | exact Rd.stays (by assumption) | exact Rd.owned 0 rfl | exact Rd.owned 1 rfl | exact Rd.owned 2 rfl | exact Rd.owned 3 rfl)) rfl ?_; refine G.v (rv_lss rfl rfl) rfl (G.done (G.thenN ?_)); refine G.cond rfl (fun hc => ?_) (fun hc => ?_)
   · try exact Bool.noConfusion hc
     all_goals
      try replace hc := of_decide_eq_true hc
      try (exfalso; first | contradiction | omega)
      all_goals
       refine G.skip (G.thenN (G.seq (G.block (G.region (G.v (rv_move rfl) rfl ?_))))); refine G.v (rv_catS rfl rfl (by simp only [List.length_append, List.length_cons, List.length_nil]; omega)) rfl ?_; refine G.v (rv_move rfl) rfl (G.v (rv_move rfl) rfl ?_)
       (first | refine G.v (rv_indexH rfl rfl (by first | exact Rd.stays (by assumption) | exact Rd.owned 0 rfl | exact Rd.owned 1 rfl | exact Rd.owned 2 rfl | exact Rd.owned 3 rfl) rfl (by assumption)) rfl ?_ | refine G.v (rv_index rfl rfl (by first | exact Rd.stays (by assumption) | exact Rd.owned 0 rfl | exact Rd.owned 1 rfl | exact Rd.owned 2 rfl | exact Rd.owned 3 rfl) rfl (by assumption)) rfl ?_)
       refine G.v (rv_loadE rfl (by first | exact Rd.stays (by assumption) | exact Rd.owned 0 rfl | exact Rd.owned 1 rfl | exact Rd.owned 2 rfl | exact Rd.owned 3 rfl) (by assumption) rfl) rfl ?_; refine G.op (og_callV rfl rfl (fun w hh => sdigitsZ_any hnz w)) rfl (fun _ _ => ?_); refine G.v (rv_catS rfl rfl (by simp only [List.length_append, List.length_cons, List.length_nil]; omega)) rfl ?_; refine G.v (rv_assign rfl) rfl (G.done (G.inN (G.thenN (G.region (G.v (rv_move rfl) rfl ?_)))))
       (first | refine G.v (rv_incr rfl rfl (by omega)) rfl ?_ | refine G.v (rv_addB rfl rfl (by omega) (by omega)) rfl ?_)
       refine G.v (rv_assign rfl) rfl (G.done ?_)
       first | refine G.backK (k + 1) 0 rfl (.cons rfl (.nil)) ?_ ?_ ?_
       · exact ⟨congrArg (fun l => some (sv l)) (by rw [htn]; simp), rfl, trivial⟩
       · exact hlt
       · omega
   · try exact Bool.noConfusion hc
     all_goals
      try replace hc := of_decide_eq_false hc
      try (exfalso; first | contradiction | omega)
      all_goals
       refine G.exit (G.thenX (G.thenX (G.inX (G.thenN (G.seq (G.region (G.v (rv_move rfl) rfl (G.v (rv_assign rfl) rfl (G.done (G.thenN (G.ret ?_)))))))))))
       exact G.retFV rfl rfl (by rw [rowT, hN, lineT_tail, take_all (by omega)])
end Go.Proofs.YtnfokjlplbbbeaaDoor

/-
  Lines read: both ways.
-/
namespace Go.Proofs.YtnfokjlplbbbeaaDoor
open Go.RowKit Go.Lib
/-! ### Part of a row -/
theorem pE_sub {w : World} {v : Value} {s : Nat} {es : List (List Value)} (h : Rd w v s es) {a k c : Nat} (hk : a + k < es.length) : pE (subV v s a es.length) s k c = pE v s (a + k) c := by
  obtain ⟨ad, cap, rfl, q1, q2, q3⟩ := h.form
  obtain ⟨b, o, rfl⟩ := q3 (by omega)
  have hne : ¬ cap = a := by omega
  have e : o + a * s + (k * s + c) = o + ((a + k) * s + c) := by rw [Nat.add_mul]; omega
  simp [subV, sliced, pE, blkOf, offOf, hne, Addr.add_lit, e]
theorem rv_idxSub {P : Program} {n : Nat} {w0 : World} {fr : Fr} {H : List Ch} {x y : Operand} {t e : TypeId} {s bs : Nat} {zs : List Value} [hT : TySlice P t e] [hI : TyInfo P e s zs bs] {v : Value} {es : List (List Value)} {k : IntKind} {a i : Nat} {d : List Value}
    (hx : opv fr x = some (subV v s a es.length)) (hy : opv fr y = some (.int k (i : Int))) (hv : ∀ w, HeapOk w0 w H → Rd w v s es) (ha : a + i < es.length) (he : es[a + i]? = some d) : RunsV P n w0 fr H (.indexAddr t x y) (pE v s (a + i) 0) := fun c w hr hh dd T pos af gd => by
  have hsub : ∀ w, HeapOk w0 w H → Rd w (subV v s a es.length) s ((es.drop a).take (es.length - a)) := fun w hh => (hv w hh).sub (by omega) (Nat.le_refl _)
  have hel : ((es.drop a).take (es.length - a))[i]? = some d := by
    rw [List.getElem?_take_of_lt (by omega), List.getElem?_drop]; exact he
  have h := rv_indexH (P := P) (n := n) (w0 := w0) (H := H) (t := t) (k := i) hx hy hsub rfl hel c w hr hh dd T pos af gd
  rw [h, pE_sub (hv w hh) ha]
/-! ### Numbers, one by one -/
theorem nums_next {ps : List (List UInt8)} {k : Nat} {p : List UInt8} {ns : List Int} (hp : ps[k]? = some p) (h : numsM (ps.take k) = some ns) (hn : (numberM p).2 = true) : numsM (ps.take (k + 1)) = some (ns ++ [(numberM p).1]) := by
  rw [List.take_add_one, hp]
  have : ∀ (a : List (List UInt8)) (ns : List Int), numsM a = some ns → numsM (a ++ [p]) = some (ns ++ [(numberM p).1]) := by
    intro a
    induction a with
    | nil => intro ns h; rw [numsM] at h; rw [← Option.some.inj h]; simp [numsM, hn]
    | cons b a ih =>
      intro ns h
      rw [numsM] at h
      rw [List.cons_append, numsM]
      split at h
      · rename_i hb
        obtain ⟨ms, hm, rfl⟩ := Option.map_eq_some_iff.1 h
        rw [if_pos hb, ih ms hm]; rfl
      · cases h
  exact this _ _ h
theorem nums_no : ∀ {ps : List (List UInt8)} {p : List UInt8}, p ∈ ps → (numberM p).2 = false → numsM ps = none
  | [], _, h, _ => absurd h List.not_mem_nil
  | b :: ps, p, h, hn => by
    rw [numsM]
    rcases List.mem_cons.1 h with rfl | h
    · rw [if_neg (by rw [hn]; decide)]
    · split
      · rw [nums_no h hn]; rfl
      · rfl
theorem words_parts {wd l p : List UInt8} {ps : List (List UInt8)} (h : partsM 32 l = p :: ps) (k : Nat) : wordsM wd k l = if p = wd ∧ ps.length = k then numsM ps else none := by rw [wordsM, h]
attribute [local irreducible] Go.wpList Go.Code.wp Go.Exit.then Go.Exit.inBlock Go.bodyPost Go.Calls pE pB G RunsV FnV Fn FnM
set_option maxRecDepth 100000
set_option maxHeartbeats 4000000
theorem wordsOf_any {wd l : List UInt8} {n : Nat} (hl : l.length ≤ 1048576) (hn : n ≤ 1048577) (w : World) (ht : TabI w) (hte : TabE w) : Fn Tryd.prog 34 [sv l, sv wd, .int .i64 (n : Int)] w (fun v : Value => v.oneCell' = true ∧ (wordsM wd n l = none → v = .slice none 0 0)) (fun v => .tuple #[v, .bool (wordsM wd n l).isSome]) (fun v => [.row v 3 1 (((wordsM wd n l).getD []).map icell)]) := by
  have hpl := parts_len 32 l
  have hpm : ∀ q ∈ partsM 32 l, q.length ≤ l.length := parts_each 32 l
  obtain ⟨p, ps, hpp⟩ : ∃ p ps, partsM 32 l = p :: ps := (by cases h : partsM 32 l with | nil => exact absurd h (parts_ne 32 l) | cons p ps => exact ⟨p, ps, rfl⟩)
  have hwp := words_parts (wd := wd) hpp n
  rw [hpp] at hpl hpm
  have hpl2 : (((p :: ps)).map scell).length = ps.length + 1 := (by rw [List.length_map, List.length_cons])
  have hpl3 : (p :: ps).length = ps.length + 1 := List.length_cons ..
  have hsub1 : 1 ≤ (p :: ps).length := (by omega)
  have he0 : ((p :: ps).map scell)[0]? = some (scell p) := rfl
  refine Fn.of (n := 49) Tryd.func34 rfl rfl ?_; refine G.seq (G.region (G.v (rv_assign rfl) rfl (G.v (rv_assign rfl) rfl (G.done (G.thenN (G.seq (G.region (G.v (rv_move rfl) rfl ?_))))))))
  (refine G.op (og_callF1 rfl rfl (fun w hh => parts_any (b := 32) hl w)) rfl ?_; rintro vp hvp; try dsimp only)
  (first | refine G.frontR0 vp rfl ?_ | refine G.frontR1 vp rfl ?_ | refine G.frontR2 vp rfl ?_ | refine G.frontR3 vp rfl ?_ | refine G.frontR4 vp rfl ?_ | refine G.frontR5 vp rfl ?_ | refine G.frontR6 vp rfl ?_ | refine G.frontR7 vp rfl ?_ | refine G.frontR8 vp rfl ?_ | refine G.frontR9 vp rfl ?_ | refine G.frontR10 vp rfl ?_ | refine G.frontR11 vp rfl ?_ | refine G.frontR12 vp rfl ?_ | refine G.frontR13 vp rfl ?_)
  refine G.rowEq ((p :: ps).map scell) (by rw [hpp]) rfl ?_; refine G.v (rv_assign rfl) rfl (G.done (G.thenN (G.seq (G.seq (G.region (G.v (rv_move rfl) rfl ?_))))))
  (first | refine G.v (rv_indexH (k := 0) rfl rfl (by first | exact Rd.owned 0 rfl | exact Rd.owned 1 rfl) rfl he0) rfl ?_ | refine G.v (rv_indexH rfl rfl (by first | exact Rd.stays (by assumption) | exact Rd.owned 0 rfl | exact Rd.owned 1 rfl | exact Rd.owned 2 rfl | exact Rd.owned 3 rfl | exact Rd.owned 4 rfl | exact Rd.owned 5 rfl | exact (fun w hh => Rd.subL (l := p :: ps) (k := 1) (Rd.owned 0 rfl w hh) hsub1)) rfl (by first | exact he0 | exact he)) rfl ?_ | refine G.v (rv_index rfl rfl (by first | exact Rd.stays (by assumption) | exact Rd.owned 0 rfl | exact Rd.owned 1 rfl | exact Rd.owned 2 rfl | exact Rd.owned 3 rfl | exact Rd.owned 4 rfl | exact Rd.owned 5 rfl | exact (fun w hh => Rd.subL (l := p :: ps) (k := 1) (Rd.owned 0 rfl w hh) hsub1)) rfl (by assumption)) rfl ?_)
  refine G.v (rv_loadE rfl (by first | exact Rd.stays (by assumption) | exact Rd.owned 0 rfl | exact Rd.owned 1 rfl | exact Rd.owned 2 rfl | exact Rd.owned 3 rfl | exact Rd.owned 4 rfl | exact Rd.owned 5 rfl | exact (fun w hh => Rd.subL (l := p :: ps) (k := 1) (Rd.owned 0 rfl w hh) hsub1)) (by first | exact he0 | exact he) rfl) rfl ?_; refine G.v (rv_move rfl) rfl ?_; refine G.v (rv_neqS rfl rfl) rfl ?_; refine G.v (rv_move rfl) rfl ?_
  all_goals (((with_reducible refine G.gP rfl rfl (fun hg => ?_) (fun hg => ?_)) <;> (try exact Bool.noConfusion hg) <;> (first | (refine G.gY rfl rfl ?_; refine G.v (rv_move rfl) rfl ?_) | refine G.gN rfl rfl rfl ?_ | refine G.gU rfl rfl rfl ?_)))
  all_goals ((first | (refine G.gY rfl rfl ?_; refine G.v (rv_len rfl (by first | exact Rd.stays (by assumption) | exact Rd.owned 0 rfl | exact Rd.owned 1 rfl | exact Rd.owned 2 rfl | exact Rd.owned 3 rfl | exact Rd.owned 4 rfl | exact Rd.owned 5 rfl | exact (fun w hh => Rd.subL (l := p :: ps) (k := 1) (Rd.owned 0 rfl w hh) hsub1))) rfl ?_) | refine G.gN rfl rfl rfl ?_ | refine G.gU rfl rfl rfl ?_))
  all_goals ((first | (refine G.gY rfl rfl ?_; refine G.v (rv_move rfl) rfl ?_) | refine G.gN rfl rfl rfl ?_ | refine G.gU rfl rfl rfl ?_))
  all_goals ((first | (refine G.gY rfl rfl ?_; (first | refine G.v (rv_incr rfl rfl (by omega)) rfl ?_ | refine G.v (rv_addB rfl rfl (by omega) (by omega)) rfl ?_)) | refine G.gN rfl rfl rfl ?_ | refine G.gU rfl rfl rfl ?_))
  all_goals ((first | (refine G.gY rfl rfl ?_; refine G.v (rv_neq rfl rfl) rfl ?_) | refine G.gN rfl rfl rfl ?_ | refine G.gU rfl rfl rfl ?_))
  all_goals ((first | refine G.v (rv_pickT rfl rfl) rfl ?_ | refine G.v (rv_pickF rfl rfl) rfl ?_))
  all_goals
   refine G.done (G.thenN ?_); refine G.cond rfl (fun hc => ?_) (fun hc => ?_)
   · try exact Bool.noConfusion hc
     all_goals
      try replace hc := of_decide_eq_true hc
      try (exfalso; first | contradiction | omega)
      all_goals
       refine G.seq (G.region (G.v (rv_assign rfl) rfl (G.v (rv_assign rfl) rfl (G.done (G.thenN (G.ret (G.thenR ?_)))))))
       first | (have hno : wordsM wd n l = none := (by rw [hwp, if_neg (fun e => of_decide_eq_true hg e.1)]); refine G.heap (fun w hh => hh.nilRow 3 1) ?_; exact G.retL (.slice none 0 0) ⟨rfl, fun _ => rfl⟩ rfl (.cons (.tmp rfl) (.cons (.tmp rfl) .nil)) (by rw [hno]; rfl) (fun w hh => by rw [hno]; exact hh.sublist (by repeat (first | exact List.Sublist.refl _ | refine List.Sublist.cons_cons _ ?_ | refine List.Sublist.cons _ ?_)))) | (have hno : wordsM wd n l = none := (by rw [hwp, if_neg (fun e => (by omega : ¬ ps.length = n) e.2)]); refine G.heap (fun w hh => hh.nilRow 3 1) ?_; exact G.retL (.slice none 0 0) ⟨rfl, fun _ => rfl⟩ rfl (.cons (.tmp rfl) (.cons (.tmp rfl) .nil)) (by rw [hno]; rfl) (fun w hh => by rw [hno]; exact hh.sublist (by repeat (first | exact List.Sublist.refl _ | refine List.Sublist.cons_cons _ ?_ | refine List.Sublist.cons _ ?_)))) | (have hno : wordsM wd n l = none := (by rw [hwp, if_pos ⟨hpw, hpn⟩]; exact nums_no (List.mem_of_getElem? hq) (by simpa using hc)); refine G.heap (fun w hh => hh.nilRow 3 1) ?_; exact G.retL (.slice none 0 0) ⟨rfl, fun _ => rfl⟩ rfl (.cons (.tmp rfl) (.cons (.tmp rfl) .nil)) (by rw [hno]; rfl) (fun w hh => by rw [hno]; exact hh.sublist (by repeat (first | exact List.Sublist.refl _ | refine List.Sublist.cons_cons _ ?_ | refine List.Sublist.cons _ ?_)))) | (have hyes : wordsM wd n l = some ns := (by rw [hwp, if_pos ⟨hpw, hpn⟩, ← hns, take_all hlt]); (first | refine G.frontR0 v rfl ?_ | refine G.frontR1 v rfl ?_ | refine G.frontR2 v rfl ?_ | refine G.frontR3 v rfl ?_ | refine G.frontR4 v rfl ?_ | refine G.frontR5 v rfl ?_ | refine G.frontR6 v rfl ?_ | refine G.frontR7 v rfl ?_ | refine G.frontR8 v rfl ?_ | refine G.frontR9 v rfl ?_ | refine G.frontR10 v rfl ?_ | refine G.frontR11 v rfl ?_ | refine G.frontR12 v rfl ?_ | refine G.frontR13 v rfl ?_); exact G.retL v ⟨hov, fun e => by rw [hyes] at e; cases e⟩ rfl (.cons (.tmp rfl) (.cons (.tmp rfl) .nil)) (by rw [hyes]; rfl) (fun w hh => by rw [hyes]; exact hh.sublist (by repeat (first | exact List.Sublist.refl _ | refine List.Sublist.cons_cons _ ?_ | refine List.Sublist.cons _ ?_))))
   · try exact Bool.noConfusion hc
     all_goals
      try replace hc := of_decide_eq_false hc
      try (exfalso; first | contradiction | omega)
      all_goals
       refine G.skip (G.thenN (G.seq (G.region ?_))); refine G.op (og_lit rfl .nil rfl rfl rfl rfl rfl rfl) rfl (fun vl _ => ?_); refine G.know (fun w hw => (Rd.owned 0 rfl (v := vl) w hw).one_) (fun hovl => ?_); refine G.v (rv_assign rfl) rfl (G.done (G.thenN (G.seq (G.seq (G.region (G.v (rv_move rfl) rfl ?_)))))); refine G.v (rv_sliceL (l := 1) rfl rfl (by first | exact Rd.owned 0 rfl | exact Rd.owned 1 rfl | exact Rd.owned 2 rfl) (by omega)) rfl ?_; refine G.v (rv_len rfl (fun w hh => Rd.subL (l := p :: ps) (k := 1) (by first | exact Rd.owned 0 rfl w hh | exact Rd.owned 1 rfl w hh | exact Rd.owned 2 rfl w hh) (by omega))) rfl ?_; refine G.v (rv_move rfl) rfl (G.done (G.thenN (G.block ?_)))
       -- loop 0: turned [9, 32], kept [30, 31]
       have hpw : p = wd := (by first | exact Decidable.not_not.1 (of_decide_eq_false (by assumption)) | simp_all); have hpn : ps.length = n := (by omega)
       have hdl : (((p :: ps).drop 1).map scell).length = ps.length := (by rw [List.length_map]; rfl)
       (first | refine G.frontR0 vl rfl ?_ | refine G.frontR1 vl rfl ?_ | refine G.frontR2 vl rfl ?_ | refine G.frontR3 vl rfl ?_ | refine G.frontR4 vl rfl ?_ | refine G.frontR5 vl rfl ?_ | refine G.frontR6 vl rfl ?_ | refine G.frontR7 vl rfl ?_ | refine G.frontR8 vl rfl ?_ | refine G.frontR9 vl rfl ?_ | refine G.frontR10 vl rfl ?_ | refine G.frontR11 vl rfl ?_ | refine G.frontR12 vl rfl ?_ | refine G.frontR13 vl rfl ?_)
       (first | refine G.frontR0 vp rfl ?_ | refine G.frontR1 vp rfl ?_ | refine G.frontR2 vp rfl ?_ | refine G.frontR3 vp rfl ?_ | refine G.frontR4 vp rfl ?_ | refine G.frontR5 vp rfl ?_ | refine G.frontR6 vp rfl ?_ | refine G.frontR7 vp rfl ?_ | refine G.frontR8 vp rfl ?_ | refine G.frontR9 vp rfl ?_ | refine G.frontR10 vp rfl ?_ | refine G.frontR11 vp rfl ?_ | refine G.frontR12 vp rfl ?_ | refine G.frontR13 vp rfl ?_)
       refine G.loopK (ι := Nat × Value × List Int) (ks := [30, 31]) (fun x => [(9, x.2.1), (32, .int .i64 (x.1 : Int))]) (fun x => [.row vp 9 1 ((p :: ps).map scell), .row x.2.1 3 1 (x.2.2.map icell)]) (fun x => (x.1 ≤ ps.length ∧ x.2.2.length = x.1) ∧ numsM (ps.take x.1) = some x.2.2 ∧ x.2.1.oneCell' = true) (fun x => ps.length - x.1) (0, vl, []) (.cons rfl (.cons rfl (.nil))) rfl ?_ ?_ ?_
       · exact ⟨⟨Nat.zero_le _, rfl⟩, rfl, hovl⟩
       · exact ⟨rfl, rfl, trivial⟩
       rintro ⟨k, v, ns⟩ ⟨⟨hk, hnl⟩, hns, hov⟩
       dsimp only at hk hnl hns hov ⊢
       have hnlm : (ns.map icell).length = ns.length := List.length_map ..
       by_cases hlt : k < ps.length
       case' pos => (obtain ⟨q, hq⟩ := get_of_lt hlt; have he : (((p :: ps).drop 1).map scell)[k]? = some (scell q) := get_map hq scell; have hql : q.length ≤ 1048576 := (by have := hpm q (List.mem_cons_of_mem _ (List.mem_of_getElem? hq)); omega))
       all_goals
        refine G.seq (G.region (G.v (rv_lss rfl rfl) rfl (G.done (G.thenN (G.seq ?_))))); refine G.cond rfl (fun hc => ?_) (fun hc => ?_)
        · try exact Bool.noConfusion hc
          all_goals
           try replace hc := of_decide_eq_true hc
           try (exfalso; first | contradiction | omega)
           all_goals
            refine G.skip (G.thenN (G.seq (G.block (G.seq (G.region ?_))))); refine G.v (rv_indexH (k := k) rfl rfl (fun w hh => Rd.subL (l := p :: ps) (k := 1) (Rd.owned 0 rfl w hh) hsub1) rfl he) rfl ?_; refine G.v (rv_loadE rfl (by first | exact Rd.stays (by assumption) | exact Rd.owned 0 rfl | exact Rd.owned 1 rfl | exact Rd.owned 2 rfl | exact Rd.owned 3 rfl | exact Rd.owned 4 rfl | exact Rd.owned 5 rfl | exact (fun w hh => Rd.subL (l := p :: ps) (k := 1) (Rd.owned 0 rfl w hh) hsub1)) (by first | exact he0 | exact he) rfl) rfl ?_; refine G.v (rv_assign rfl) rfl (G.done (G.thenN (G.seq (G.region (G.v (rv_move rfl) rfl ?_))))); refine G.op (og_callV rfl rfl (fun w hh => number_any (l := q) hql w (ht.stays hh) (hte.stays hh))) rfl (fun _ _ => ?_); refine G.v (rv_move rfl) rfl (G.v (rv_extract rfl rfl) rfl (G.v (rv_extract rfl rfl) rfl (G.v (rv_assign rfl) rfl (G.v (rv_assign rfl) rfl (G.done (G.thenN (G.seq (G.seq (G.region (G.v (rv_move rfl) rfl (G.v (rv_not rfl) rfl ?_))))))))))); refine G.done (G.thenN ?_); refine G.cond rfl (fun hc => ?_) (fun hc => ?_)
            · try exact Bool.noConfusion hc
              all_goals
               try replace hc := of_decide_eq_true hc
               try (exfalso; first | contradiction | omega)
               all_goals
                refine G.seq (G.region (G.v (rv_assign rfl) rfl (G.v (rv_assign rfl) rfl (G.done (G.thenN (G.ret (G.thenR (G.inR (G.thenR (G.thenR (G.inR ?_))))))))))); refine G.thenR ?_
                first | (have hno : wordsM wd n l = none := (by rw [hwp, if_neg (fun e => of_decide_eq_true hg e.1)]); refine G.heap (fun w hh => hh.nilRow 3 1) ?_; exact G.retL (.slice none 0 0) ⟨rfl, fun _ => rfl⟩ rfl (.cons (.tmp rfl) (.cons (.tmp rfl) .nil)) (by rw [hno]; rfl) (fun w hh => by rw [hno]; exact hh.sublist (by repeat (first | exact List.Sublist.refl _ | refine List.Sublist.cons_cons _ ?_ | refine List.Sublist.cons _ ?_)))) | (have hno : wordsM wd n l = none := (by rw [hwp, if_neg (fun e => (by omega : ¬ ps.length = n) e.2)]); refine G.heap (fun w hh => hh.nilRow 3 1) ?_; exact G.retL (.slice none 0 0) ⟨rfl, fun _ => rfl⟩ rfl (.cons (.tmp rfl) (.cons (.tmp rfl) .nil)) (by rw [hno]; rfl) (fun w hh => by rw [hno]; exact hh.sublist (by repeat (first | exact List.Sublist.refl _ | refine List.Sublist.cons_cons _ ?_ | refine List.Sublist.cons _ ?_)))) | (have hno : wordsM wd n l = none := (by rw [hwp, if_pos ⟨hpw, hpn⟩]; exact nums_no (List.mem_of_getElem? hq) (by simpa using hc)); refine G.heap (fun w hh => hh.nilRow 3 1) ?_; exact G.retL (.slice none 0 0) ⟨rfl, fun _ => rfl⟩ rfl (.cons (.tmp rfl) (.cons (.tmp rfl) .nil)) (by rw [hno]; rfl) (fun w hh => by rw [hno]; exact hh.sublist (by repeat (first | exact List.Sublist.refl _ | refine List.Sublist.cons_cons _ ?_ | refine List.Sublist.cons _ ?_)))) | (have hyes : wordsM wd n l = some ns := (by rw [hwp, if_pos ⟨hpw, hpn⟩, ← hns, take_all hlt]); (first | refine G.frontR0 v rfl ?_ | refine G.frontR1 v rfl ?_ | refine G.frontR2 v rfl ?_ | refine G.frontR3 v rfl ?_ | refine G.frontR4 v rfl ?_ | refine G.frontR5 v rfl ?_ | refine G.frontR6 v rfl ?_ | refine G.frontR7 v rfl ?_ | refine G.frontR8 v rfl ?_ | refine G.frontR9 v rfl ?_ | refine G.frontR10 v rfl ?_ | refine G.frontR11 v rfl ?_ | refine G.frontR12 v rfl ?_ | refine G.frontR13 v rfl ?_); exact G.retL v ⟨hov, fun e => by rw [hyes] at e; cases e⟩ rfl (.cons (.tmp rfl) (.cons (.tmp rfl) .nil)) (by rw [hyes]; rfl) (fun w hh => by rw [hyes]; exact hh.sublist (by repeat (first | exact List.Sublist.refl _ | refine List.Sublist.cons_cons _ ?_ | refine List.Sublist.cons _ ?_))))
            · try exact Bool.noConfusion hc
              all_goals
               try replace hc := of_decide_eq_false hc
               try (exfalso; first | contradiction | omega)
               all_goals
                refine G.skip (G.thenN (G.region (G.v (rv_move rfl) rfl (G.v (rv_move rfl) rfl ?_)))); refine G.op (og_lit rfl (.cons rfl .nil) rfl rfl rfl rfl rfl rfl) rfl (fun vx _ => ?_)
                (first | refine G.op (og_app0 rfl rfl rfl (by first | exact Rd.stays (by assumption) | exact Rd.owned 0 rfl | exact Rd.owned 1 rfl | exact Rd.owned 2 rfl | exact Rd.owned 3 rfl | exact Rd.owned 4 rfl | exact Rd.owned 5 rfl | exact (fun w hh => Rd.subL (l := p :: ps) (k := 1) (Rd.owned 0 rfl w hh) hsub1)) rfl rfl (by first | (simp; done) | (simp; omega)) (by first | (simp; done) | (simp; omega))) rfl (fun va _ => ?_) | refine G.op (og_app1 rfl rfl rfl (by first | exact Rd.stays (by assumption) | exact Rd.owned 0 rfl | exact Rd.owned 1 rfl | exact Rd.owned 2 rfl | exact Rd.owned 3 rfl | exact Rd.owned 4 rfl | exact Rd.owned 5 rfl | exact (fun w hh => Rd.subL (l := p :: ps) (k := 1) (Rd.owned 0 rfl w hh) hsub1)) rfl rfl (by first | (simp; done) | (simp; omega)) (by first | (simp; done) | (simp; omega))) rfl (fun va _ => ?_) | refine G.op (og_app2 rfl rfl rfl (by first | exact Rd.stays (by assumption) | exact Rd.owned 0 rfl | exact Rd.owned 1 rfl | exact Rd.owned 2 rfl | exact Rd.owned 3 rfl | exact Rd.owned 4 rfl | exact Rd.owned 5 rfl | exact (fun w hh => Rd.subL (l := p :: ps) (k := 1) (Rd.owned 0 rfl w hh) hsub1)) rfl rfl (by first | (simp; done) | (simp; omega)) (by first | (simp; done) | (simp; omega))) rfl (fun va _ => ?_) | refine G.op (og_app3 rfl rfl rfl (by first | exact Rd.stays (by assumption) | exact Rd.owned 0 rfl | exact Rd.owned 1 rfl | exact Rd.owned 2 rfl | exact Rd.owned 3 rfl | exact Rd.owned 4 rfl | exact Rd.owned 5 rfl | exact (fun w hh => Rd.subL (l := p :: ps) (k := 1) (Rd.owned 0 rfl w hh) hsub1)) rfl rfl (by first | (simp; done) | (simp; omega)) (by first | (simp; done) | (simp; omega))) rfl (fun va _ => ?_) | refine G.op (og_app4 rfl rfl rfl (by first | exact Rd.stays (by assumption) | exact Rd.owned 0 rfl | exact Rd.owned 1 rfl | exact Rd.owned 2 rfl | exact Rd.owned 3 rfl | exact Rd.owned 4 rfl | exact Rd.owned 5 rfl | exact (fun w hh => Rd.subL (l := p :: ps) (k := 1) (Rd.owned 0 rfl w hh) hsub1)) rfl rfl (by first | (simp; done) | (simp; omega)) (by first | (simp; done) | (simp; omega))) rfl (fun va _ => ?_) | refine G.op (og_app5 rfl rfl rfl (by first | exact Rd.stays (by assumption) | exact Rd.owned 0 rfl | exact Rd.owned 1 rfl | exact Rd.owned 2 rfl | exact Rd.owned 3 rfl | exact Rd.owned 4 rfl | exact Rd.owned 5 rfl | exact (fun w hh => Rd.subL (l := p :: ps) (k := 1) (Rd.owned 0 rfl w hh) hsub1)) rfl rfl (by first | (simp; done) | (simp; omega)) (by first | (simp; done) | (simp; omega))) rfl (fun va _ => ?_))
                refine G.know (fun w hw => by first | exact (Rd.owned 0 rfl (v := va) w hw).one_ | exact (Rd.owned 1 rfl (v := va) w hw).one_ | exact (Rd.owned 2 rfl (v := va) w hw).one_ | exact (Rd.owned 3 rfl (v := va) w hw).one_) (fun hova => ?_); refine G.v (rv_assign rfl) rfl (G.done (G.inN (G.thenN (G.region ?_))))
                (first | refine G.v (rv_incr rfl rfl (by omega)) rfl ?_ | refine G.v (rv_addB rfl rfl (by omega) (by omega)) rfl ?_)
                refine G.v (rv_move rfl) rfl (G.done ?_)
                (first | refine G.frontR0 va rfl ?_ | refine G.frontR1 va rfl ?_ | refine G.frontR2 va rfl ?_ | refine G.frontR3 va rfl ?_ | refine G.frontR4 va rfl ?_ | refine G.frontR5 va rfl ?_ | refine G.frontR6 va rfl ?_ | refine G.frontR7 va rfl ?_ | refine G.frontR8 va rfl ?_ | refine G.frontR9 va rfl ?_ | refine G.frontR10 va rfl ?_ | refine G.frontR11 va rfl ?_ | refine G.frontR12 va rfl ?_ | refine G.frontR13 va rfl ?_)
                (first | refine G.frontR0 vp rfl ?_ | refine G.frontR1 vp rfl ?_ | refine G.frontR2 vp rfl ?_ | refine G.frontR3 vp rfl ?_ | refine G.frontR4 vp rfl ?_ | refine G.frontR5 vp rfl ?_ | refine G.frontR6 vp rfl ?_ | refine G.frontR7 vp rfl ?_ | refine G.frontR8 vp rfl ?_ | refine G.frontR9 vp rfl ?_ | refine G.frontR10 vp rfl ?_ | refine G.frontR11 vp rfl ?_ | refine G.frontR12 vp rfl ?_ | refine G.frontR13 vp rfl ?_)
                first | (refine G.keep2 1 rfl ?_; refine G.backK (k + 1, va, ns ++ [(numberM q).1]) 0 (two_eq rfl (congrArg (fun z => Ch.row va 3 1 z) (by rw [List.map_append]; rfl))) (.cons rfl (.cons rfl (.nil))) ?_ ?_ ?_) | (refine G.keep2 0 rfl ?_; refine G.backK (k + 1, va, ns ++ [(numberM q).1]) 0 (two_eq rfl (congrArg (fun z => Ch.row va 3 1 z) (by rw [List.map_append]; rfl))) (.cons rfl (.cons rfl (.nil))) ?_ ?_ ?_)
                · exact ⟨rfl, rfl, trivial⟩
                · exact ⟨⟨hlt, by dsimp only; rw [List.length_append, List.length_singleton]; omega⟩, nums_next hq hns (by simpa using hc), hova⟩
                · dsimp only; omega
        · try exact Bool.noConfusion hc
          all_goals
           try replace hc := of_decide_eq_false hc
           try (exfalso; first | contradiction | omega)
           all_goals
            refine G.exit (G.thenX (G.thenX (G.inX (G.thenN (G.seq (G.region (G.v (rv_move rfl) rfl (G.v (rv_assign rfl) rfl (G.v (rv_assign rfl) rfl (G.done (G.thenN ?_))))))))))); refine G.ret ?_
            first | (have hno : wordsM wd n l = none := (by rw [hwp, if_neg (fun e => of_decide_eq_true hg e.1)]); refine G.heap (fun w hh => hh.nilRow 3 1) ?_; exact G.retL (.slice none 0 0) ⟨rfl, fun _ => rfl⟩ rfl (.cons (.tmp rfl) (.cons (.tmp rfl) .nil)) (by rw [hno]; rfl) (fun w hh => by rw [hno]; exact hh.sublist (by repeat (first | exact List.Sublist.refl _ | refine List.Sublist.cons_cons _ ?_ | refine List.Sublist.cons _ ?_)))) | (have hno : wordsM wd n l = none := (by rw [hwp, if_neg (fun e => (by omega : ¬ ps.length = n) e.2)]); refine G.heap (fun w hh => hh.nilRow 3 1) ?_; exact G.retL (.slice none 0 0) ⟨rfl, fun _ => rfl⟩ rfl (.cons (.tmp rfl) (.cons (.tmp rfl) .nil)) (by rw [hno]; rfl) (fun w hh => by rw [hno]; exact hh.sublist (by repeat (first | exact List.Sublist.refl _ | refine List.Sublist.cons_cons _ ?_ | refine List.Sublist.cons _ ?_)))) | (have hno : wordsM wd n l = none := (by rw [hwp, if_pos ⟨hpw, hpn⟩]; exact nums_no (List.mem_of_getElem? hq) (by simpa using hc)); refine G.heap (fun w hh => hh.nilRow 3 1) ?_; exact G.retL (.slice none 0 0) ⟨rfl, fun _ => rfl⟩ rfl (.cons (.tmp rfl) (.cons (.tmp rfl) .nil)) (by rw [hno]; rfl) (fun w hh => by rw [hno]; exact hh.sublist (by repeat (first | exact List.Sublist.refl _ | refine List.Sublist.cons_cons _ ?_ | refine List.Sublist.cons _ ?_)))) | (have hyes : wordsM wd n l = some ns := (by rw [hwp, if_pos ⟨hpw, hpn⟩, ← hns, take_all hlt]); (first | refine G.frontR0 v rfl ?_ | refine G.frontR1 v rfl ?_ | refine G.frontR2 v rfl ?_ | refine G.frontR3 v rfl ?_ | refine G.frontR4 v rfl ?_ | refine G.frontR5 v rfl ?_ | refine G.frontR6 v rfl ?_ | refine G.frontR7 v rfl ?_ | refine G.frontR8 v rfl ?_ | refine G.frontR9 v rfl ?_ | refine G.frontR10 v rfl ?_ | refine G.frontR11 v rfl ?_ | refine G.frontR12 v rfl ?_ | refine G.frontR13 v rfl ?_); exact G.retL v ⟨hov, fun e => by rw [hyes] at e; cases e⟩ rfl (.cons (.tmp rfl) (.cons (.tmp rfl) .nil)) (by rw [hyes]; rfl) (fun w hh => by rw [hyes]; exact hh.sublist (by repeat (first | exact List.Sublist.refl _ | refine List.Sublist.cons_cons _ ?_ | refine List.Sublist.cons _ ?_))))
end Go.Proofs.YtnfokjlplbbbeaaDoor
