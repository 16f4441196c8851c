/-
  Texts of this proof, one behind the other: LayStr, TextM, Str, Txt1, Txt2, OrdM, Plan, PlanT, Txt3, Txt4, Open, LaidF.
-/
import Derived.Shelf.Strconv.Atoi
import Derived.Shelf.Strconv.Itoa0
import Derived.Shelf.Strconv.Itoa1
import Derived.Shelf.LaysM
import Derived.Shelf.Strconv.Itoa2
import Derived.Shelf.Strconv.Itoa3
import Derived.Shelf.Strconv.AtoiErrFast
import Derived.Shelf.Strconv.ParseIntEmpty
import Derived.Shelf.Strconv.AtoiFail
import Derived.Shelf.Strconv.Clone
import Derived.Shelf.Strconv.SyntaxError
import Derived.Shelf.LaysC
import Derived.Shelf.Strconv.ToError
import Derived.Shelf.Strconv.Lower
import Derived.Shelf.Strconv.ParseUint10
import Derived.Shelf.Strconv.ParseUint10Empty
import Derived.Shelf.Strconv.ParseUint10Any
import Derived.Shelf.Strconv.ParseInt10
import Derived.Shelf.Strconv.AtoiLong
import Derived.Shelf.Strconv.AtoiInnerAll
import Derived.Shelf.Strconv.RangeError
import Derived.Shelf.Strconv.ToErrorRange
import Derived.Shelf.Strconv.AtoiAll
import Derived.Shelf.Strconv.ErrVarAll
import Derived.Test.YtnfokjlplbbbeaaDoorProg
import Derived.Lib.AtoiAllCases
import Derived.Lib.AtoiTie
import Derived.Lib.ItoaMem
import Derived.Test.YtnfokjlplbbbeaaDoorPkaA
import Derived.Laws.BytesString
import Derived.Lib.Strings
import Derived.ProofKit
import Derived.OpenShut
import Derived.ShutString
import Derived.ChangeOld
import Derived.Deep.Slices
import Derived.Deep.Fields
import Derived.Test.YtnfokjlplbbbeaaDoorRows
import Derived.Test.YtnfokjlplbbbeaaDoorTie
import Derived.Test.YtnfokjlplbbbeaaDoorCards
import Derived.SizedLaws
import Derived.ChangeSame
import Derived.ChangeVars
import Derived.JoinedOf
import Derived.JoinedAt
import Derived.RowKit
import Derived.RowKitTokens
import Derived.LaidLaws
import Derived.LaidHandle
import Derived.LaidMore
import Derived.SevenTiedAt
import Derived.Stop.Joined
import Derived.Stop.LaidErr
import Derived.Lib.LaidTab

/-
  The contracts of the library's numerals at this program: written by the kit's tools lay-shelf and lay-plain.
-/
namespace Go.Proofs
open Go.Shelf
def Tryd.lays244_ren : Go.Shelf.Ren := ⟨fun | 244 => 59 | 247 => 62 | 287 => 71 | 321 => 79 | 322 => 80 | n => n, fun | 9 => 9 | 3 => 3 | 75 => 82 | 4 => 4 | 5 => 5 | 167 => 87 | 37 => 79 | 0 => 0 | 85 => 88 | 2 => 2 | 53 => 94 | 175 => 99 | 46 => 101 | 21 => 21 | 80 => 120 | n => n, fun | n => n⟩
def Tryd.lays172_ren : Go.Shelf.Ren := ⟨fun | 172 => 57 | 244 => 59 | 245 => 60 | 247 => 62 | 279 => 63 | 280 => 64 | 281 => 65 | 282 => 66 | 287 => 71 | 316 => 72 | 171 => 56 | 205 => 73 | 321 => 79 | 322 => 80 | 243 => 58 | 246 => 61 | 283 => 67 | 284 => 68 | 285 => 69 | 286 => 70 | 129 => 75 | 317 => 74 | 318 => 76 | 319 => 77 | 320 => 78 | 337 => 81 | 338 => 82 | n => n, fun | 9 => 9 | 3 => 3 | 75 => 82 | 76 => 83 | 4 => 4 | 5 => 5 | 167 => 87 | 37 => 79 | 0 => 0 | 85 => 88 | 2 => 2 | 168 => 90 | 53 => 94 | 175 => 99 | 46 => 101 | 210 => 104 | 127 => 113 | 145 => 116 | 143 => 114 | 21 => 21 | 171 => 93 | 173 => 97 | 212 => 108 | 51 => 109 | 20 => 20 | 213 => 110 | 232 => 118 | 233 => 119 | 80 => 120 | n => n, fun | 15 => 0 | 16 => 1 | 17 => 2 | 18 => 3 | 19 => 4 | n => n⟩
def Tryd.lays129_ren : Go.Shelf.Ren := ⟨fun | 129 => 75 | n => n, fun | 53 => 94 | 3 => 3 | 4 => 4 | 46 => 101 | 5 => 5 | 9 => 9 | n => n, fun | n => n⟩
def Tryd.lays317_ren : Go.Shelf.Ren := ⟨fun | 317 => 74 | n => n, fun | 3 => 3 | 46 => 101 | n => n, fun | n => n⟩
def Tryd.lays318_ren : Go.Shelf.Ren := ⟨fun | 318 => 76 | n => n, fun | 3 => 3 | 4 => 4 | n => n, fun | n => n⟩
def Tryd.lays283_ren : Go.Shelf.Ren := ⟨fun | 283 => 67 | n => n, fun | 3 => 3 | 9 => 9 | 4 => 4 | n => n, fun | n => n⟩
def Tryd.laysM284_ren : Go.Shelf.Ren := ⟨fun | 284 => 68 | 129 => 75 | 317 => 74 | 318 => 76 | n => n, fun | 53 => 94 | 3 => 3 | 212 => 108 | 0 => 0 | 4 => 4 | 46 => 101 | 5 => 5 | 9 => 9 | n => n, fun | 17 => 2 | n => n⟩
def Tryd.lays285_ren : Go.Shelf.Ren := ⟨fun | 285 => 69 | n => n, fun | 37 => 79 | 53 => 94 | 3 => 3 | 4 => 4 | 51 => 109 | 9 => 9 | 5 => 5 | 0 => 0 | n => n, fun | n => n⟩
def Tryd.laysM246_ren : Go.Shelf.Ren := ⟨fun | 246 => 61 | 283 => 67 | 284 => 68 | 285 => 69 | 286 => 70 | 129 => 75 | 317 => 74 | 318 => 76 | 319 => 77 | 320 => 78 | 337 => 81 | 338 => 82 | n => n, fun | 2 => 2 | 3 => 3 | 9 => 9 | 4 => 4 | 171 => 93 | 0 => 0 | 53 => 94 | 37 => 79 | 5 => 5 | 173 => 97 | 212 => 108 | 51 => 109 | 20 => 20 | 213 => 110 | 46 => 101 | 232 => 118 | 233 => 119 | n => n, fun | 17 => 2 | 18 => 3 | 19 => 4 | n => n⟩
def Tryd.lays246_ren : Go.Shelf.Ren := ⟨fun | 246 => 61 | 283 => 67 | 284 => 68 | 285 => 69 | 286 => 70 | 129 => 75 | 317 => 74 | 318 => 76 | 319 => 77 | 320 => 78 | 337 => 81 | 338 => 82 | n => n, fun | 2 => 2 | 3 => 3 | 9 => 9 | 4 => 4 | 171 => 93 | 0 => 0 | 53 => 94 | 37 => 79 | 5 => 5 | 173 => 97 | 212 => 108 | 51 => 109 | 20 => 20 | 213 => 110 | 46 => 101 | 232 => 118 | 233 => 119 | n => n, fun | 17 => 2 | 18 => 3 | 19 => 4 | n => n⟩
def Tryd.laysM243_ren : Go.Shelf.Ren := ⟨fun | 243 => 58 | 246 => 61 | 283 => 67 | 284 => 68 | 285 => 69 | 286 => 70 | 129 => 75 | 317 => 74 | 318 => 76 | 319 => 77 | 320 => 78 | 337 => 81 | 338 => 82 | n => n, fun | 3 => 3 | 9 => 9 | 2 => 2 | 4 => 4 | 171 => 93 | 0 => 0 | 53 => 94 | 37 => 79 | 5 => 5 | 173 => 97 | 212 => 108 | 51 => 109 | 20 => 20 | 213 => 110 | 46 => 101 | 232 => 118 | 233 => 119 | n => n, fun | 17 => 2 | 18 => 3 | 19 => 4 | n => n⟩
def Tryd.lays243_ren : Go.Shelf.Ren := ⟨fun | 243 => 58 | 246 => 61 | 283 => 67 | 284 => 68 | 285 => 69 | 286 => 70 | 129 => 75 | 317 => 74 | 318 => 76 | 319 => 77 | 320 => 78 | 337 => 81 | 338 => 82 | n => n, fun | 3 => 3 | 9 => 9 | 2 => 2 | 4 => 4 | 171 => 93 | 0 => 0 | 53 => 94 | 37 => 79 | 5 => 5 | 173 => 97 | 212 => 108 | 51 => 109 | 20 => 20 | 213 => 110 | 46 => 101 | 232 => 118 | 233 => 119 | n => n, fun | 17 => 2 | 18 => 3 | 19 => 4 | n => n⟩
def Tryd.laysM171_ren : Go.Shelf.Ren := ⟨fun | 171 => 56 | 243 => 58 | 246 => 61 | 283 => 67 | 284 => 68 | 285 => 69 | 286 => 70 | 129 => 75 | 317 => 74 | 318 => 76 | 319 => 77 | 320 => 78 | 337 => 81 | 338 => 82 | n => n, fun | 3 => 3 | 9 => 9 | 2 => 2 | 4 => 4 | 171 => 93 | 0 => 0 | 53 => 94 | 37 => 79 | 5 => 5 | 173 => 97 | 212 => 108 | 51 => 109 | 20 => 20 | 213 => 110 | 46 => 101 | 232 => 118 | 233 => 119 | n => n, fun | 17 => 2 | 18 => 3 | 19 => 4 | n => n⟩
theorem Tryd.laysM171 : Go.Proofs.LaysM.n171 Tryd.prog Tryd.laysM171_ren := {
  mixed := by kernel_rfl
  f129 := Tryd.func75.trans (congrArg some (by kernel_rfl))
  f171 := Tryd.func56.trans (congrArg some (by kernel_rfl))
  f243 := Tryd.func58.trans (congrArg some (by kernel_rfl))
  f246 := Tryd.func61.trans (congrArg some (by kernel_rfl))
  f283 := Tryd.func67.trans (congrArg some (by kernel_rfl))
  f284 := Tryd.func68.trans (congrArg some (by kernel_rfl))
  f285 := Tryd.func69.trans (congrArg some (by kernel_rfl))
  f286 := Tryd.func70.trans (congrArg some (by kernel_rfl))
  f317 := Tryd.func74.trans (congrArg some (by kernel_rfl))
  f318 := Tryd.func76.trans (congrArg some (by kernel_rfl))
  f319 := Tryd.func77.trans (congrArg some (by kernel_rfl))
  f320 := Tryd.func78.trans (congrArg some (by kernel_rfl))
  f337 := Tryd.func81.trans (congrArg some (by kernel_rfl))
  f338 := Tryd.func82.trans (congrArg some (by kernel_rfl))
  t0 := Tryd.underlying0
  a0 := Tryd.isAgg0
  z0 := Tryd.sizeOf0
  v0 := Tryd.zeroValue0
  t2 := Tryd.underlying2
  a2 := Tryd.isAgg2
  z2 := Tryd.sizeOf2
  v2 := Tryd.zeroValue2
  t3 := Tryd.underlying3
  a3 := Tryd.isAgg3
  z3 := Tryd.sizeOf3
  v3 := Tryd.zeroValue3
  t4 := Tryd.underlying4
  a4 := Tryd.isAgg4
  z4 := Tryd.sizeOf4
  v4 := Tryd.zeroValue4
  t5 := Tryd.underlying5
  a5 := Tryd.isAgg5
  z5 := Tryd.sizeOf5
  v5 := Tryd.zeroValue5
  t9 := Tryd.underlying9
  a9 := Tryd.isAgg9
  z9 := Tryd.sizeOf9
  v9 := Tryd.zeroValue9
  t20 := Tryd.underlying20
  a20 := Tryd.isAgg20
  z20 := Tryd.sizeOf20
  v20 := Tryd.zeroValue20
  t37 := Tryd.underlying79
  a37 := Tryd.isAgg79
  z37 := Tryd.sizeOf79
  v37 := Tryd.zeroValue79
  t46 := Tryd.underlying101
  a46 := Tryd.isAgg101
  z46 := Tryd.sizeOf101
  v46 := Tryd.zeroValue101
  t51 := Tryd.underlying109
  a51 := Tryd.isAgg109
  z51 := Tryd.sizeOf109
  v51 := Tryd.zeroValue109
  t53 := Tryd.underlying94
  a53 := Tryd.isAgg94
  z53 := Tryd.sizeOf94
  v53 := Tryd.zeroValue94
  t171 := Tryd.underlying93
  a171 := Tryd.isAgg93
  z171 := Tryd.sizeOf93
  v171 := Tryd.zeroValue93
  t173 := Tryd.underlying97
  a173 := Tryd.isAgg97
  z173 := Tryd.sizeOf97
  v173 := Tryd.zeroValue97
  t212 := Tryd.underlying108
  a212 := Tryd.isAgg108
  z212 := Tryd.sizeOf108
  v212 := Tryd.zeroValue108
  t213 := Tryd.underlying110
  a213 := Tryd.isAgg110
  z213 := Tryd.sizeOf110
  t232 := Tryd.underlying118
  a232 := Tryd.isAgg118
  z232 := Tryd.sizeOf118
  v232 := Tryd.zeroValue118
  t233 := Tryd.underlying119
  a233 := Tryd.isAgg119
  z233 := Tryd.sizeOf119
  v233 := Tryd.zeroValue119
  g17 := by kernel_rfl
  g18 := by kernel_rfl
  g19 := by kernel_rfl
  i0 := by kernel_rfl
  i2 := by kernel_rfl
  i3 := by kernel_rfl
  i4 := by kernel_rfl
  i5 := by kernel_rfl
  i9 := by kernel_rfl
  i20 := by kernel_rfl
  i37 := by kernel_rfl
  i46 := by kernel_rfl
  i51 := by kernel_rfl
  i53 := by kernel_rfl
  i171 := by kernel_rfl
  i173 := by kernel_rfl
  i212 := by kernel_rfl
  i232 := by kernel_rfl
  i233 := by kernel_rfl
  m17 := by kernel_rfl
  m18 := by kernel_rfl
  m19 := by kernel_rfl }
open Go.RowKit Go.Sort Go.Lib in
/-- strconv.Itoa: "Itoa is equivalent to FormatInt(int64(i), 10).": i's DECIMAL NUMERAL ('Lib.itoa': a '-' where i is negative, then the digits), FOR EVERY int. The world behind the call: the world before it, new blocks behind the heap (the library's 'var a [24]byte'), draws. (LAID: no walk: one application.) -/
theorem Tryd.strconv_Itoa (n : Int) (h0 : -9223372036854775808 ≤ n) (h1 : n ≤ 9223372036854775807) (w : World) (htab : Lib.TabIs Tryd.prog w "internal/strconv.uint64pow10" .u64 Lib.pow10Tab) :
    Calls Tryd.prog 56 #[.int .i64 n] w fun e w' => e = .returned (.string ⟨(Lib.itoa n).toArray⟩) ∧ ∃ k os, w' = grow (w.drewN k) os := Any.strconv_Itoa Tryd.laysM171 n h0 h1 w htab
def Tryd.lays171_ren : Go.Shelf.Ren := ⟨fun | 171 => 56 | 243 => 58 | 246 => 61 | 283 => 67 | 284 => 68 | 285 => 69 | 286 => 70 | 129 => 75 | 317 => 74 | 318 => 76 | 319 => 77 | 320 => 78 | 337 => 81 | 338 => 82 | n => n, fun | 3 => 3 | 9 => 9 | 2 => 2 | 4 => 4 | 171 => 93 | 0 => 0 | 53 => 94 | 37 => 79 | 5 => 5 | 173 => 97 | 212 => 108 | 51 => 109 | 20 => 20 | 213 => 110 | 46 => 101 | 232 => 118 | 233 => 119 | n => n, fun | 17 => 2 | 18 => 3 | 19 => 4 | n => n⟩
def Tryd.lays247_ren : Go.Shelf.Ren := ⟨fun | 247 => 62 | 287 => 71 | 321 => 79 | 322 => 80 | n => n, fun | 9 => 9 | 3 => 3 | 2 => 2 | 75 => 82 | 4 => 4 | 167 => 87 | 5 => 5 | 53 => 94 | 175 => 99 | 46 => 101 | 37 => 79 | 0 => 0 | 21 => 21 | 80 => 120 | n => n, fun | n => n⟩
def Tryd.laysM316_ren : Go.Shelf.Ren := ⟨fun | 316 => 72 | n => n, fun | 9 => 9 | 3 => 3 | 4 => 4 | 37 => 79 | 0 => 0 | 127 => 113 | 5 => 5 | n => n, fun | n => n⟩
def Tryd.laysM279_ren : Go.Shelf.Ren := ⟨fun | 279 => 63 | 316 => 72 | n => n, fun | 9 => 9 | 168 => 90 | 75 => 82 | 210 => 104 | 3 => 3 | 4 => 4 | 37 => 79 | 0 => 0 | 127 => 113 | 80 => 120 | 5 => 5 | n => n, fun | 15 => 0 | n => n⟩
def Tryd.laysC245_ren : Go.Shelf.Ren := ⟨fun | 245 => 60 | 279 => 63 | 280 => 64 | 281 => 65 | 282 => 66 | 316 => 72 | 171 => 56 | 205 => 73 | 243 => 58 | 246 => 61 | 283 => 67 | 284 => 68 | 285 => 69 | 286 => 70 | 129 => 75 | 317 => 74 | 318 => 76 | 319 => 77 | 320 => 78 | 337 => 81 | 338 => 82 | n => n, fun | 9 => 9 | 3 => 3 | 75 => 82 | 167 => 87 | 4 => 4 | 168 => 90 | 210 => 104 | 37 => 79 | 0 => 0 | 127 => 113 | 145 => 116 | 143 => 114 | 2 => 2 | 171 => 93 | 53 => 94 | 5 => 5 | 173 => 97 | 212 => 108 | 51 => 109 | 20 => 20 | 213 => 110 | 46 => 101 | 232 => 118 | 233 => 119 | 80 => 120 | n => n, fun | 15 => 0 | 16 => 1 | 17 => 2 | 18 => 3 | 19 => 4 | n => n⟩
def Tryd.lays321_ren : Go.Shelf.Ren := ⟨fun | 321 => 79 | n => n, fun | 5 => 5 | n => n, fun | n => n⟩
def Tryd.lays287_ren : Go.Shelf.Ren := ⟨fun | 287 => 71 | 321 => 79 | 322 => 80 | n => n, fun | 9 => 9 | 3 => 3 | 53 => 94 | 75 => 82 | 4 => 4 | 167 => 87 | 5 => 5 | 46 => 101 | 37 => 79 | 0 => 0 | 21 => 21 | 80 => 120 | n => n, fun | n => n⟩
def Tryd.laysC247_ren : Go.Shelf.Ren := ⟨fun | 247 => 62 | 287 => 71 | 321 => 79 | 322 => 80 | n => n, fun | 9 => 9 | 3 => 3 | 2 => 2 | 75 => 82 | 4 => 4 | 167 => 87 | 5 => 5 | 53 => 94 | 175 => 99 | 46 => 101 | 37 => 79 | 0 => 0 | 21 => 21 | 80 => 120 | n => n, fun | n => n⟩
def Tryd.laysC244_ren : Go.Shelf.Ren := ⟨fun | 244 => 59 | 247 => 62 | 287 => 71 | 321 => 79 | 322 => 80 | n => n, fun | 9 => 9 | 3 => 3 | 75 => 82 | 4 => 4 | 5 => 5 | 167 => 87 | 37 => 79 | 0 => 0 | 85 => 88 | 2 => 2 | 53 => 94 | 175 => 99 | 46 => 101 | 21 => 21 | 80 => 120 | n => n, fun | n => n⟩
def Tryd.laysM280_ren : Go.Shelf.Ren := ⟨fun | 280 => 64 | 316 => 72 | n => n, fun | 9 => 9 | 168 => 90 | 75 => 82 | 210 => 104 | 3 => 3 | 4 => 4 | 37 => 79 | 0 => 0 | 127 => 113 | 80 => 120 | 5 => 5 | n => n, fun | 16 => 1 | n => n⟩
def Tryd.laysC172_ren : Go.Shelf.Ren := ⟨fun | 172 => 57 | 244 => 59 | 245 => 60 | 247 => 62 | 279 => 63 | 280 => 64 | 281 => 65 | 282 => 66 | 287 => 71 | 316 => 72 | 171 => 56 | 205 => 73 | 321 => 79 | 322 => 80 | 243 => 58 | 246 => 61 | 283 => 67 | 284 => 68 | 285 => 69 | 286 => 70 | 129 => 75 | 317 => 74 | 318 => 76 | 319 => 77 | 320 => 78 | 337 => 81 | 338 => 82 | n => n, fun | 9 => 9 | 3 => 3 | 75 => 82 | 76 => 83 | 4 => 4 | 5 => 5 | 167 => 87 | 37 => 79 | 0 => 0 | 85 => 88 | 2 => 2 | 168 => 90 | 53 => 94 | 175 => 99 | 46 => 101 | 210 => 104 | 127 => 113 | 145 => 116 | 143 => 114 | 21 => 21 | 171 => 93 | 173 => 97 | 212 => 108 | 51 => 109 | 20 => 20 | 213 => 110 | 232 => 118 | 233 => 119 | 80 => 120 | n => n, fun | 15 => 0 | 16 => 1 | 17 => 2 | 18 => 3 | 19 => 4 | n => n⟩
end Go.Proofs

/-
  Texts: parts between separators, and numbers.
-/
namespace Go.Proofs.YtnfokjlplbbbeaaDoor
open Go.Lib
/-- What stands between the bytes b of a text. -/
def partsM (b : UInt8) : List UInt8 → List (List UInt8)
  | [] => [[]]
  | c :: r => if c = b then [] :: partsM b r else match partsM b r with
    | p :: ps => (c :: p) :: ps
    | [] => [[c]]
def joinM (b : UInt8) : List (List UInt8) → List UInt8
  | [] => []
  | [p] => p
  | p :: q :: r => p ++ b :: joinM b (q :: r)
/-! ### Numbers -/
/-- The digits of a number, the last first taken off. -/
def digL (n : Nat) (out : List UInt8) : List UInt8 := if h : n = 0 then out else digL (n / 10) (UInt8.ofNat (48 + n % 10) :: out)
termination_by n
decreasing_by omega
theorem digL_dec : ∀ (n : Nat) (out : List UInt8), n ≠ 0 → digL n out = decDigits n ++ out := by
  intro n
  induction n using Nat.strongRecOn with
  | _ n ih =>
    intro out h
    rw [digL, dif_neg h, decDigits]
    by_cases h10 : n < 10
    · rw [dif_pos h10, show n / 10 = 0 from by omega, digL, dif_pos rfl, Nat.mod_eq_of_lt h10]; rfl
    · rw [dif_neg h10, ih (n / 10) (by omega) _ (by omega)]; simp
def digitB (b : UInt8) : Bool := decide (48 ≤ b.toNat) && decide (b.toNat ≤ 57)
def valM (l : List UInt8) : Nat := l.foldl (fun n b => 10 * n + (b.toNat - 48)) 0
theorem val_snoc (l : List UInt8) (b : UInt8) : valM (l ++ [b]) = 10 * valM l + (b.toNat - 48) := by rw [valM, List.foldl_append]; rfl
theorem dig_byte {d : Nat} (h : d < 10) : (UInt8.ofNat (48 + d)).toNat = 48 + d := by
  rw [UInt8.toNat_ofNat']; exact Nat.mod_eq_of_lt (by omega)
theorem dec_val : ∀ n : Nat, valM (decDigits n) = n := by
  intro n
  induction n using Nat.strongRecOn with
  | _ n ih =>
    rw [decDigits]
    split
    · rename_i h; rw [show valM [UInt8.ofNat (48 + n)] = 10 * 0 + ((UInt8.ofNat (48 + n)).toNat - 48) from rfl, dig_byte h]; omega
    · rw [val_snoc, ih (n / 10) (by omega), dig_byte (by omega)]; omega
theorem dec_dig : ∀ n : Nat, (decDigits n).all digitB = true := by
  intro n
  induction n using Nat.strongRecOn with
  | _ n ih =>
    rw [decDigits]
    split
    · rename_i h
      simp only [List.all_cons, List.all_nil, Bool.and_true, digitB, dig_byte h, Bool.and_eq_true, decide_eq_true_eq]; omega
    · rw [List.all_append, ih (n / 10) (by omega)]
      simp only [List.all_cons, List.all_nil, Bool.and_true, Bool.true_and, digitB, dig_byte (show n % 10 < 10 by omega), Bool.and_eq_true, decide_eq_true_eq]; omega
/-- The number whose numeral a text is, if it is at most 999999. -/
def numberM (l : List UInt8) : Int × Bool :=
  if 1 ≤ l.length ∧ l.length ≤ 6 ∧ l.all digitB = true ∧ decDigits (valM l) = l then ((valM l : Int), true) else (0, false)
theorem digits_pow : ∀ k u : Nat, k + 1 < nDigits u → 10 ^ (k + 1) ≤ u
  | 0, u, hu => by
    by_cases h10 : u < 10
    · rw [nDigits_small h10] at hu; omega
    · simpa using Nat.le_of_not_lt h10
  | k + 1, u, hu => by
    by_cases h10 : u < 10
    · rw [nDigits_small h10] at hu; omega
    · rw [nDigits_big h10] at hu
      have := digits_pow k (u / 10) (by omega)
      rw [Nat.pow_succ]; omega
theorem number_mk {n : Int} (h0 : 0 ≤ n) (h1 : n ≤ 999999) : numberM (itoa n) = (n, true) := by
  obtain ⟨u, rfl⟩ := Int.eq_ofNat_of_zero_le h0
  have a1 : 1 ≤ (decDigits u).length := by rw [decDigits_length]; exact nDigits_pos u
  have a2 : (decDigits u).length ≤ 6 := by
    rw [decDigits_length]
    apply Decidable.byContradiction
    intro h
    have h7 := digits_pow 5 u (by omega)
    omega
  rw [itoa_nonneg, numberM]
  simp only [dec_val]
  exact if_pos ⟨a1, a2, dec_dig u, trivial⟩
end Go.Proofs.YtnfokjlplbbbeaaDoor

/-
  Texts in the logic of chunks.
-/
namespace Go.Proofs.YtnfokjlplbbbeaaDoor
open Go.RowKit
/-- A text, as a value. -/
abbrev sv (l : List UInt8) : Value := .string ⟨l.toArray⟩
def scell (l : List UInt8) : List Value := [sv l]
theorem sv_list (l : List UInt8) : (ByteArray.mk l.toArray).toList = l := by rw [ByteArray.toList_eq]
theorem sv_size (l : List UInt8) : (ByteArray.mk l.toArray).size = l.length := rfl
class TyStr (P : Program) (t : TypeId) : Prop where
  h : P.underlying t = some .string
instance : TyStr Tryd.prog 9 := ⟨by kernel_rfl⟩
instance : TyStr Tryd.prog 10 := ⟨by kernel_rfl⟩
instance : TyStr Tryd.prog 11 := ⟨by kernel_rfl⟩
section
variable {P : Program} {n : Nat} {w0 : World} {fr : Fr} {H : List Ch} {x y z : Operand} {t t' : TypeId} {k k' : IntKind} {l m : List UInt8} {p q : Int}
theorem sv_app (l m : List UInt8) : (ByteArray.mk l.toArray) ++ (ByteArray.mk m.toArray) = ⟨(l ++ m).toArray⟩ := by
  apply ByteArray.ext; simp
theorem rv_catS (hx : opv fr x = some (sv l)) (hy : opv fr y = some (sv m)) (h : l.length + m.length ≤ 1152921504606846976) : RunsV P n w0 fr H (.binOp .add t x y t') (sv (l ++ m)) := fun a w hr _ _ _ _ _ _ => by
  simp [execOp, hr.opv hx, hr.opv hy, eqGuard_add, binOp_string_add, Op.stringOp, sv_size, sv_app]
  omega
theorem beq_dec (l m : List UInt8) : (l == m) = decide (l = m) := by rw [Bool.eq_iff_iff]; simp
theorem rv_neqS (hx : opv fr x = some (sv l)) (hy : opv fr y = some (sv m)) : RunsV P n w0 fr H (.binOp .neq t x y t') (.bool (decide (¬ l = m))) := fun a w hr _ _ _ _ _ _ => by
  simp [execOp, hr.opv hx, hr.opv hy, eqGuard_at_string, binOp_string_neq, sv_list, beq_dec]
theorem push_list : ∀ (l : List UInt8) (s : List UInt8), (l.map fun b => ((b.toNat : Int))).foldl (fun (r : ByteArray) (n : Int) => r.push (UInt8.ofNat n.toNat)) ⟨s.toArray⟩ = ⟨(s ++ l).toArray⟩
  | [], s => by simp
  | b :: l, s => by
    rw [List.map_cons, List.foldl_cons]
    have e : (ByteArray.mk s.toArray).push (UInt8.ofNat ((b.toNat : Int)).toNat) = ⟨(s ++ [b]).toArray⟩ := by
      apply ByteArray.ext; simp [ByteArray.push]
    rw [e, push_list l]; simp
/-- A text made of a list of bytes. -/
theorem rv_str {src dst e : TypeId} [hS : TySlice P src e] (he : P.underlying e = some (.int .u8)) [hD : TyStr P dst] {v : Value} (hx : opv fr x = some v) (hv : ∀ w, HeapOk w0 w H → Rd w v 1 (l.map fun b => [Value.int .u8 (b.toNat : Int)])) :
    RunsV P n w0 fr H (.convert src dst x) (sv l) := fun a w hr hh _ _ _ _ _ => by
  have hrd := hv w hh
  obtain ⟨ad, cap, rfl, h1, h2, h3⟩ := hrd.form
  have hlen : (l.map fun b => [Value.int .u8 (b.toNat : Int)]).length = l.length := List.length_map ..
  have hfl : (l.map fun b => [Value.int .u8 (b.toNat : Int)]).flatten = (l.map fun b => ((b.toNat : Int))).map (Value.int .u8) := by
    rw [List.map_map]; clear hlen hrd hv hx h1 h2 h3
    induction l with
    | nil => rfl
    | cons b l ih => rw [List.map_cons, List.flatten_cons, ih]; rfl
  rw [hlen] at hx h3
  have hxx := hr.opv hx
  simp only [execOp, hxx]
  cases ad with
  | none =>
    have : l = [] := by
      cases l with
      | nil => rfl
      | cons b l => obtain ⟨_, _, e⟩ := h3 (by simp); cases e
    subst this
    have := run_convert_bytes_string (P := P) w src dst e none 0 cap hS.h he hD.h
    simp only [List.length_nil]
    simp [this, Conv.bytesToString]
    try rfl
  | some ad =>
    have hl := run_loadCells_list (P := P) w ad ((l.map fun b => ((b.toNat : Int))).map (Value.int .u8)) (fun j u hj => by
      have hj2 := hrd.cells j u (by rw [hfl]; exact hj)
      by_cases hl0 : 0 < l.length
      · obtain ⟨b, o, e⟩ := h3 hl0
        cases e
        simpa [blkOf, offOf, Addr.add_lit] using hj2
      · have : l = [] := List.length_eq_zero_iff.1 (by omega)
        subst this; simp at hj)
    rw [List.length_map, List.length_map] at hl
    have h5 := run_bytesToString w ad l.length cap _ hl
    have := run_convert_bytes_string (P := P) w src dst e (some ad) l.length cap hS.h he hD.h
    have h6 := push_list l []
    simp only [List.nil_append] at h6
    simp [this, h5]
    exact h6
end
end Go.Proofs.YtnfokjlplbbbeaaDoor

/-
  Numbers told, and texts taken apart: both ways.
-/
namespace Go.Proofs.YtnfokjlplbbbeaaDoor
open Go.RowKit Go.Lib
section
variable {P : Program} {n : Nat} {w0 : World} {fr : Fr} {H : List Ch} {x y : Operand} {t t' : TypeId} {k : IntKind} {m : Nat}
theorem rv_rem10 (hx : opv fr x = some (.int k (m : Int))) (hy : opv fr y = some (.int k 10)) : RunsV P n w0 fr H (.binOp .rem t x y t') (.int k ((m % 10 : Nat) : Int)) := by
  have h := rv_rem (P := P) (n := n) (w0 := w0) (H := H) (t := t) (t' := t') hx hy (by decide)
  have e : ((m % 10 : Nat) : Int) = ((m : Int)).tmod 10 := by rw [Int.tmod_eq_emod_of_nonneg (by omega)]; omega
  rw [e]; exact h
theorem rv_quo10 (hx : opv fr x = some (.int .i64 (m : Int))) (hy : opv fr y = some (.int .i64 10)) (hm : m ≤ 999999) : RunsV P n w0 fr H (.binOp .quo t x y t') (.int .i64 ((m / 10 : Nat) : Int)) := by
  have h := rv_quo (P := P) (n := n) (w0 := w0) (H := H) (t := t) (t' := t') hx hy (by decide)
  have e : ((m / 10 : Nat) : Int) = IntKind.i64.wrap (((m : Int)).tdiv 10) := by rw [Int.tdiv_eq_ediv_of_nonneg (by omega), wrap64_id (by omega) (by omega)]; omega
  rw [e]; exact h
theorem rv_conv8 {src dst : TypeId} [hs : TyInt P src .i64] [hd : TyInt P dst .u8] (hx : opv fr x = some (.int .i64 (48 + (m : Int)))) (hm : m < 10) : RunsV P n w0 fr H (.convert src dst x) (.int .u8 ((UInt8.ofNat (48 + m)).toNat : Int)) := by
  have h := rv_conv (P := P) (n := n) (w0 := w0) (H := H) (src := src) (dst := dst) hx
  have e : ((UInt8.ofNat (48 + m)).toNat : Int) = IntKind.u8.wrap (48 + (m : Int)) := by
    rw [dig_byte hm]
    have : ∀ j : Fin 10, ((48 + j.val : Nat) : Int) = IntKind.u8.wrap (48 + (j.val : Int)) := by decide
    exact this ⟨m, hm⟩
  rw [e]; exact h
end
theorem digL_next {m : Nat} (h : ¬ m = 0) (out : List UInt8) : digL (m / 10) (UInt8.ofNat (48 + m % 10) :: out) = digL m out := by rw [digL.eq_1 m out, dif_neg h]
theorem digL_zero (out : List UInt8) : digL 0 out = out := by rw [digL, dif_pos rfl]
attribute [local irreducible] Go.wpList Go.Code.wp Go.Exit.then Go.Exit.inBlock Go.bodyPost Go.Calls pE pB G RunsV FnV Fn FnM
set_option maxRecDepth 100000
set_option maxHeartbeats 4000000
theorem sdigits_any {u : Nat} (hu : u ≤ 999999) (w : World) : FnV Tryd.prog 45 [.int .i64 (u : Int)] w (sv (decDigits u)) := by
  refine FnV.of (n := 31) Tryd.func45 rfl rfl ?_; refine G.seq ?_; refine G.region ?_; refine G.v (rv_assign rfl) rfl ?_; refine G.done ?_; refine G.thenN ?_; refine G.seq ?_; refine G.seq ?_; refine G.region ?_; refine G.v (rv_move rfl) rfl ?_; refine G.v (rv_eql rfl rfl) rfl ?_; refine G.done ?_; refine G.thenN ?_; refine G.cond rfl (fun hc => ?_) (fun hc => ?_)
  · try exact Bool.noConfusion hc
    all_goals
     try replace hc := of_decide_eq_true hc
     try (exfalso; first | contradiction | omega)
     all_goals
      refine G.seq ?_; refine G.region ?_; refine G.v (rv_assign rfl) rfl ?_; refine G.done ?_; refine G.thenN ?_; refine G.ret ?_; refine G.thenR ?_
      first | exact G.retFV rfl rfl (by rw [show u = 0 by omega, decDigits_one (by decide)]; rfl) | exact G.retFV rfl rfl (by rw [← hd, show m = 0 by omega, digL_zero])
  · try exact Bool.noConfusion hc
    all_goals
     try replace hc := of_decide_eq_false hc
     try (exfalso; first | contradiction | omega)
     all_goals
      refine G.skip ?_; refine G.thenN ?_; refine G.seq ?_; refine G.region ?_; refine G.v (rv_move rfl) rfl ?_; refine G.v (rv_lss rfl rfl) rfl ?_; refine G.v (rv_assign rfl) rfl ?_; refine G.done ?_; refine G.thenN ?_; refine G.seq ?_; refine G.region ?_; refine G.v (rv_assign rfl) rfl ?_; refine G.done ?_; refine G.thenN ?_; refine G.seq ?_; refine G.block ?_
      -- loop 0: turned [0, 4], kept [3]
      have hu0 : ¬ u = 0 := (by omega)
      refine G.loopK (ι := Nat × List UInt8) (ks := [3]) (fun x => [(0, .int .i64 (x.1 : Int)), (4, sv x.2)]) (fun _ => []) (fun x => digL x.1 x.2 = decDigits u ∧ x.1 ≤ 999999 ∧ x.2.length + x.1 ≤ 999999) (fun x => x.1) (u, []) (.cons rfl (.nil)) rfl ?_ ?_ ?_
      · exact ⟨by rw [digL_dec u [] hu0]; simp, hu, by simpa using hu⟩
      · exact ⟨rfl, rfl, trivial⟩
      rintro ⟨m, out⟩ ⟨hd, hm, hol⟩
      dsimp only at hd hm hol ⊢
      all_goals
       refine G.seq ?_; refine G.seq ?_; refine G.region ?_; refine G.v (rv_move rfl) rfl ?_; refine G.v (rv_neq rfl rfl) rfl ?_; refine G.done ?_; refine G.thenN ?_; refine G.cond rfl (fun hc => ?_) (fun hc => ?_)
       · try exact Bool.noConfusion hc
         all_goals
          try replace hc := of_decide_eq_true hc
          try (exfalso; first | contradiction | omega)
          all_goals
           refine G.skip ?_; refine G.thenN ?_; refine G.block ?_; refine G.seq ?_; refine G.region ?_; refine G.v (rv_move rfl) rfl ?_; refine G.v (rv_rem10 rfl rfl) rfl ?_; refine G.v (rv_assign rfl) rfl ?_; refine G.done ?_; refine G.thenN ?_; refine G.seq ?_; refine G.seq ?_; refine G.region ?_; refine G.v (rv_move rfl) rfl ?_; refine G.v (rv_lss rfl rfl) rfl ?_; refine G.done ?_; refine G.thenN ?_; refine G.cond rfl (fun hc => ?_) (fun hc => ?_)
           · try exact Bool.noConfusion hc
             all_goals
              try replace hc := of_decide_eq_true hc
              try (exfalso; first | contradiction | omega)
              all_goals
               refine G.region ?_; refine G.v (rv_move rfl) rfl ?_
               (first | refine G.v (rv_decr rfl rfl (by omega) (by omega)) rfl ?_ | refine G.v (rv_subB rfl rfl (by omega) (by omega)) rfl ?_)
               refine G.v (rv_assign rfl) rfl ?_; refine G.done ?_; refine G.thenN ?_; refine G.seq ?_; refine G.region ?_; refine G.v (rv_move rfl) rfl ?_
               (first | refine G.v (rv_incr rfl rfl (by omega)) rfl ?_ | refine G.v (rv_addB rfl rfl (by omega) (by omega)) rfl ?_)
               refine G.v (rv_conv8 rfl (by omega)) rfl ?_; refine G.op (og_lit rfl (.cons rfl .nil) rfl rfl rfl rfl rfl rfl) rfl (fun vl _ => ?_); refine G.v (rv_str (l := [UInt8.ofNat (48 + m % 10)]) (by kernel_rfl) rfl (by first | exact Rd.owned 0 rfl | exact Rd.owned 1 rfl)) rfl ?_; refine G.v (rv_move rfl) rfl ?_; refine G.v (rv_catS rfl rfl (by simp only [List.length_cons, List.length_nil]; omega)) rfl ?_; refine G.v (rv_assign rfl) rfl ?_; refine G.done ?_; refine G.thenN ?_; refine G.region ?_; refine G.v (rv_move rfl) rfl ?_; refine G.v (rv_quo10 rfl rfl (by omega)) rfl ?_; refine G.v (rv_assign rfl) rfl ?_; refine G.done ?_; refine G.inN ?_
               first | refine G.backK (m / 10, [UInt8.ofNat (48 + m % 10)] ++ out) 0 rfl (.cons rfl (.nil)) ?_ ?_ ?_ | refine G.backK (m / 10, [UInt8.ofNat (48 + m % 10)] ++ out) 1 rfl (.cons rfl (.nil)) ?_ ?_ ?_ | refine G.backK (m / 10, [UInt8.ofNat (48 + m % 10)] ++ out) 2 rfl (.cons rfl (.nil)) ?_ ?_ ?_ | refine G.backK (m / 10, [UInt8.ofNat (48 + m % 10)] ++ out) 3 rfl (.cons rfl (.nil)) ?_ ?_ ?_
               · exact ⟨rfl, rfl, trivial⟩
               · exact ⟨by rw [← hd]; exact digL_next (by omega) out, by dsimp only; omega, by dsimp only; simp only [List.length_append, List.length_cons, List.length_nil]; omega⟩
               · dsimp only; omega
           · try exact Bool.noConfusion hc
             all_goals
              try replace hc := of_decide_eq_false hc
              try (exfalso; first | contradiction | omega)
              all_goals
               refine G.skip ?_; refine G.thenN ?_; refine G.seq ?_; refine G.region ?_; refine G.v (rv_move rfl) rfl ?_
               (first | refine G.v (rv_incr rfl rfl (by omega)) rfl ?_ | refine G.v (rv_addB rfl rfl (by omega) (by omega)) rfl ?_)
               refine G.v (rv_conv8 rfl (by omega)) rfl ?_; refine G.op (og_lit rfl (.cons rfl .nil) rfl rfl rfl rfl rfl rfl) rfl (fun vl _ => ?_); refine G.v (rv_str (l := [UInt8.ofNat (48 + m % 10)]) (by kernel_rfl) rfl (by first | exact Rd.owned 0 rfl | exact Rd.owned 1 rfl)) rfl ?_; refine G.v (rv_move rfl) rfl ?_; refine G.v (rv_catS rfl rfl (by simp only [List.length_cons, List.length_nil]; omega)) rfl ?_; refine G.v (rv_assign rfl) rfl ?_; refine G.done ?_; refine G.thenN ?_; refine G.region ?_; refine G.v (rv_move rfl) rfl ?_; refine G.v (rv_quo10 rfl rfl (by omega)) rfl ?_; refine G.v (rv_assign rfl) rfl ?_; refine G.done ?_; refine G.inN ?_
               first | refine G.backK (m / 10, [UInt8.ofNat (48 + m % 10)] ++ out) 0 rfl (.cons rfl (.nil)) ?_ ?_ ?_ | refine G.backK (m / 10, [UInt8.ofNat (48 + m % 10)] ++ out) 1 rfl (.cons rfl (.nil)) ?_ ?_ ?_ | refine G.backK (m / 10, [UInt8.ofNat (48 + m % 10)] ++ out) 2 rfl (.cons rfl (.nil)) ?_ ?_ ?_ | refine G.backK (m / 10, [UInt8.ofNat (48 + m % 10)] ++ out) 3 rfl (.cons rfl (.nil)) ?_ ?_ ?_
               · exact ⟨rfl, rfl, trivial⟩
               · exact ⟨by rw [← hd]; exact digL_next (by omega) out, by dsimp only; omega, by dsimp only; simp only [List.length_append, List.length_cons, List.length_nil]; omega⟩
               · dsimp only; omega
       · try exact Bool.noConfusion hc
         all_goals
          try replace hc := of_decide_eq_false hc
          try (exfalso; first | contradiction | omega)
          all_goals
           refine G.exit ?_; refine G.thenX ?_; refine G.thenX ?_; refine G.inX ?_; refine G.thenN ?_; refine G.seq ?_; refine G.seq ?_; refine G.region ?_; refine G.v (rv_move rfl) rfl ?_; refine G.done ?_; refine G.thenN ?_; refine G.cond rfl (fun hc => ?_) (fun hc => ?_)
           · try exact Bool.noConfusion hc
             all_goals
              try replace hc := of_decide_eq_true hc
              try (exfalso; first | contradiction | omega)
              all_goals
               refine G.seq ?_; refine G.region ?_; refine G.v (rv_move rfl) rfl ?_; refine G.v (rv_catS rfl rfl (by omega)) rfl ?_; refine G.v (rv_assign rfl) rfl ?_; refine G.done ?_; refine G.thenN ?_; refine G.ret ?_; refine G.thenR ?_
               first | exact G.retFV rfl rfl (by rw [show u = 0 by omega, decDigits_one (by decide)]; rfl) | exact G.retFV rfl rfl (by rw [← hd, show m = 0 by omega, digL_zero])
           · try exact Bool.noConfusion hc
             all_goals
              try replace hc := of_decide_eq_false hc
              try (exfalso; first | contradiction | omega)
              all_goals
               refine G.skip ?_; refine G.thenN ?_; refine G.seq ?_; refine G.region ?_; refine G.v (rv_move rfl) rfl ?_; refine G.v (rv_assign rfl) rfl ?_; refine G.done ?_; refine G.thenN ?_; refine G.ret ?_
               first | exact G.retFV rfl rfl (by rw [show u = 0 by omega, decDigits_one (by decide)]; rfl) | exact G.retFV rfl rfl (by rw [← hd, show m = 0 by omega, digL_zero])
end Go.Proofs.YtnfokjlplbbbeaaDoor

/-
  The library's numerals in the logic of chunks; numbers read and told by the program.
-/
namespace Go.Proofs.YtnfokjlplbbbeaaDoor
open Go.RowKit Go.Lib
/-! ### What the library's variables hold -/
theorem var_stays {P : Program} {w0 w : World} {H : List Ch} {name : String} {cs : Array Value} (h : w0.var? P name = some cs) (hh : HeapOk w0 w H) : w.var? P name = some cs := by
  rw [World.var?] at h ⊢
  cases hg : P.globalNamed name with
  | none => rw [hg] at h; cases h
  | some g =>
    rw [hg] at h
    simp only [Option.bind_some] at h ⊢
    have hlt : g < w0.heap.size := by
      rcases Nat.lt_or_ge g w0.heap.size with h' | h'
      · exact h'
      · rw [Array.getElem?_eq_none h'] at h; cases h
    rw [hh.below.block g hlt]; exact h
def TabI (w : World) : Prop := Lib.TabIs Tryd.prog w "internal/strconv.uint64pow10" .u64 Lib.pow10Tab
def TabE (w : World) : Prop := (∃ tp p, w.var? Tryd.prog "strconv.ErrSyntax" = some #[.iface tp p]) ∧ ∃ tp p, w.var? Tryd.prog "strconv.ErrRange" = some #[.iface tp p]
theorem TabI.stays {w0 w : World} {H : List Ch} (h : TabI w0) (hh : HeapOk w0 w H) : TabI w := var_stays h hh
theorem TabE.stays {w0 w : World} {H : List Ch} (h : TabE w0) (hh : HeapOk w0 w H) : TabE w := by
  obtain ⟨⟨t1, p1, h1⟩, ⟨t2, p2, h2⟩⟩ := h
  exact ⟨⟨t1, p1, var_stays h1 hh⟩, ⟨t2, p2, var_stays h2 hh⟩⟩
theorem below_grow (w : World) (k : Nat) (os : Array Obj) : Below w.heap.size w (Go.Sort.grow (w.drewN k) os) :=
  ⟨rfl, rfl, rfl, by simp [Go.Sort.grow, World.drewN], fun j hj => by
    show (w.heap ++ os)[j]? = w.heap[j]?
    rw [Array.getElem?_append_left hj]⟩
theorem HeapOk.ofBelow {w w' : World} (h : Below w.heap.size w w') : HeapOk w w' [] := ⟨h, by simp, List.Pairwise.nil⟩
section
variable {P : Program} {n : Nat} {w0 : World} {fr : Fr} {H : List Ch} {x y : Operand} {t t' : TypeId}
/-- Whether an error is not nil. -/
def notNil : Value → Bool
  | .nilIface => false
  | _ => true
end
theorem itoa_any {z : Int} (h0 : -9223372036854775808 ≤ z) (h1 : z ≤ 9223372036854775807) (w : World) (ht : TabI w) : FnV Tryd.prog 56 [.int .i64 z] w (sv (Lib.itoa z)) := by
  refine Calls.mono (Go.Proofs.Tryd.strconv_Itoa z h0 h1 w ht) ?_
  rintro e w' ⟨rfl, k, os, rfl⟩
  exact ⟨rfl, HeapOk.ofBelow (below_grow w k os)⟩
attribute [local irreducible] Go.wpList Go.Code.wp Go.Exit.then Go.Exit.inBlock Go.bodyPost Go.Calls pE pB G RunsV FnV Fn FnM
set_option maxRecDepth 100000
set_option maxHeartbeats 4000000
theorem digits_any {z : Int} (h0 : -9223372036854775808 ≤ z) (h1 : z ≤ 9223372036854775807) (w : World) (ht : TabI w) : FnV Tryd.prog 51 [.int .i64 z] w (sv (Lib.itoa z)) := by
  refine FnV.of (n := 5) Tryd.func51 rfl rfl ?_; refine G.seq ?_; refine G.region ?_; refine G.v (rv_assign rfl) rfl ?_; refine G.done ?_; refine G.thenN ?_; refine G.seq ?_; refine G.region ?_; refine G.v (rv_move rfl) rfl ?_; refine G.op (og_callV rfl rfl (fun w hh => itoa_any h0 h1 w (ht.stays hh))) rfl (fun _ _ => ?_); refine G.v (rv_assign rfl) rfl ?_; refine G.done ?_; refine G.thenN ?_; refine G.ret ?_
  exact G.retFV rfl rfl rfl
def NumT (l : List UInt8) : Value := .tuple #[.int .i64 (numberM l).1, .bool (numberM l).2]
section
variable {l : List UInt8} {z : Int} {ev : Value} (hnn : (notNil ev = false → Lib.atoiAll l = .ok z) ∧ (notNil ev = true → ∀ v, Lib.atoiAll l ≠ .ok v))
include hnn
end
end Go.Proofs.YtnfokjlplbbbeaaDoor

/-
  The text of an order, and what is read of it.
-/
namespace Go.Proofs.YtnfokjlplbbbeaaDoor
open Go.Lib
/-- The numbers of texts, if each is one. -/
def numsM : List (List UInt8) → Option (List Int)
  | [] => some []
  | p :: ps => if (numberM p).2 then (numsM ps).map ((numberM p).1 :: ·) else none
/-- A line's numbers: a word, and just so many numbers behind it. -/
def wordsM (w : List UInt8) (k : Nat) (l : List UInt8) : Option (List Int) := match partsM 32 l with
  | p :: ps => if p = w ∧ ps.length = k then numsM ps else none
  | [] => none
/-- A line of a word and numbers. -/
def lineT (w : List UInt8) (ns : List Int) : List UInt8 := joinM 32 (w :: ns.map itoa)
def okN (n : Int) : Prop := 0 ≤ n ∧ n ≤ 999999
/-! ### The words -/
abbrev wWayF : List UInt8 := [119, 97, 121, 32, 102, 105, 114, 115, 116]
abbrev wWayN : List UInt8 := [119, 97, 121, 32, 110, 101, 120, 116]
abbrev wPallet : List UInt8 := [112, 97, 108, 108, 101, 116]
abbrev wClasses : List UInt8 := [99, 108, 97, 115, 115, 101, 115]
abbrev wWith : List UInt8 := [119, 105, 116, 104]
abbrev wType : List UInt8 := [116, 121, 112, 101]
abbrev wMaster : List UInt8 := [109, 97, 115, 116, 101, 114]
abbrev wItem : List UInt8 := [105, 116, 101, 109]
/-! ### The numbers of a line, put into an order -/
def at0 (ns : List Int) (i : Nat) : Int := ns.getD i 0
def putPallet (r : ReqM) (n : List Int) : ReqM := { r with pal := ⟨at0 n 0, at0 n 1, at0 n 2, at0 n 3⟩ }
def putClasses (r : ReqM) (n : List Int) : ReqM := { r with classes := at0 n 0 }
def putWith (r : ReqM) (n : List Int) : ReqM := { r with pairs := r.pairs ++ [⟨at0 n 0, at0 n 1⟩] }
def putType (r : ReqM) (n : List Int) : ReqM := { r with types := r.types ++ [⟨at0 n 0, at0 n 1, at0 n 2, at0 n 3, at0 n 4, at0 n 5, at0 n 6⟩] }
def putMaster (r : ReqM) (n : List Int) : ReqM := { r with master := at0 n 0 }
def putItem (r : ReqM) (n : List Int) : ReqM := { r with items := r.items ++ [⟨at0 n 0, at0 n 1, at0 n 2, at0 n 3, at0 n 4, at0 n 5, at0 n 6⟩] }
/-- What a line is, and the order behind it. -/
def putLineM (r : ReqM) (l : List UInt8) : ReqM × Int :=
  if l = wWayF then ({ r with way := 0 }, 0) else if l = wWayN then ({ r with way := 1 }, 0) else
  match wordsM wPallet 4 l with
  | some n => (putPallet r n, 1)
  | none => match wordsM wClasses 1 l with
    | some n => (putClasses r n, 2)
    | none => match wordsM wWith 2 l with
      | some n => (putWith r n, 3)
      | none => match wordsM wType 7 l with
        | some n => (putType r n, 4)
        | none => match wordsM wMaster 1 l with
          | some n => (putMaster r n, 5)
          | none => match wordsM wItem 7 l with
            | some n => (putItem r n, 6)
            | none => (r, -1)
def mayM (last k : Int) : Bool :=
  if k = 0 ∨ k = 1 ∨ k = 2 then decide (last = k - 1) else if k = 3 then decide (last = 2) || decide (last = 3)
  else if k = 4 ∨ k = 5 then decide (2 ≤ last) && decide (last ≤ 4) else if k = 6 then decide (last = 5) || decide (last = 6) else false
/-- The lines of an order, one behind the other. -/
def runM (r : ReqM) (last : Int) : List (List UInt8) → Option ReqM
  | [] => if last < 5 then none else some r
  | l :: ls => if mayM last (putLineM r l).2 then runM (putLineM r l).1 (putLineM r l).2 ls else none
def reqZ : ReqM := ⟨0, ⟨0, 0, 0, 0⟩, 0, [], [], 0, []⟩
/-- What is read of a text; none: it is no order's. -/
def readM (s : List UInt8) : Option ReqM :=
  let ls := partsM 10 s
  if ls.length - 1 ≤ 60 ∧ ls.getLast? = some [] then runM reqZ (-1) (ls.take (ls.length - 1)) else none
/-! ### The reference's way -/
def goItems (r : ReqM) : List (List UInt8) → Option ReqM
  | [] => some r
  | l :: ls => match wordsM wItem 7 l with
    | some n => goItems (putItem r n) ls
    | none => none
def goMaster (r : ReqM) : List (List UInt8) → Option ReqM
  | [] => none
  | l :: ls => match wordsM wMaster 1 l with
    | some n => goItems (putMaster r n) ls
    | none => none
def goTypes (r : ReqM) : List (List UInt8) → Option ReqM
  | [] => none
  | l :: ls => match wordsM wType 7 l with
    | some n => goTypes (putType r n) ls
    | none => goMaster r (l :: ls)
def goWith (r : ReqM) : List (List UInt8) → Option ReqM
  | [] => none
  | l :: ls => match wordsM wWith 2 l with
    | some n => goWith (putWith r n) ls
    | none => goTypes r (l :: ls)
def goClasses (r : ReqM) : List (List UInt8) → Option ReqM
  | [] => none
  | l :: ls => match wordsM wClasses 1 l with
    | some n => goWith (putClasses r n) ls
    | none => none
def goPallet (r : ReqM) : List (List UInt8) → Option ReqM
  | [] => none
  | l :: ls => match wordsM wPallet 4 l with
    | some n => goClasses (putPallet r n) ls
    | none => none
def goWay : List (List UInt8) → Option ReqM
  | [] => none
  | l :: ls => if l = wWayF then goPallet reqZ ls else if l = wWayN then goPallet { reqZ with way := 1 } ls else none
/-- What kind a line is, by what its words are. -/
inductive LineIs (r : ReqM) (l : List UInt8) : ReqM → Int → Prop where
  | wayF (h : l = wWayF) : LineIs r l { r with way := 0 } 0
  | wayN (h : l = wWayN) : LineIs r l { r with way := 1 } 0
  | pallet {n : List Int} (h : wordsM wPallet 4 l = some n) : LineIs r l (putPallet r n) 1
  | classes {n : List Int} (h : wordsM wClasses 1 l = some n) : LineIs r l (putClasses r n) 2
  | «with» {n : List Int} (h : wordsM wWith 2 l = some n) : LineIs r l (putWith r n) 3
  | type {n : List Int} (h : wordsM wType 7 l = some n) : LineIs r l (putType r n) 4
  | master {n : List Int} (h : wordsM wMaster 1 l = some n) : LineIs r l (putMaster r n) 5
  | item {n : List Int} (h : wordsM wItem 7 l = some n) : LineIs r l (putItem r n) 6
  | no (h0 : l ≠ wWayF) (h9 : l ≠ wWayN) (h1 : wordsM wPallet 4 l = none) (h2 : wordsM wClasses 1 l = none) (h3 : wordsM wWith 2 l = none) (h4 : wordsM wType 7 l = none) (h5 : wordsM wMaster 1 l = none) (h6 : wordsM wItem 7 l = none) : LineIs r l r (-1)
end Go.Proofs.YtnfokjlplbbbeaaDoor

/-
  Plans that are right.
-/
namespace Go.Proofs.YtnfokjlplbbbeaaDoor
open Go.RowKit
attribute [local irreducible] Go.wpList Go.Code.wp Go.Exit.then Go.Exit.inBlock Go.bodyPost Go.Calls pE pB G RunsV FnV Fn FnM
set_option maxRecDepth 100000

/-- The numbers of a list go up, and are in bounds: at one place. -/
def upAt (l : List Int) (i : Nat) : Bool := match l[i]? with
  | none => true
  | some u => inB u 0 999 && (match i with | 0 => true | j + 1 => match l[j]? with | none => true | some v => decide (v < u))
def upM (l : List Int) : Bool := decide (l.length ≤ 100) && (List.range l.length).all (upAt l)
theorem range_next {f : Nat → Bool} {k : Nat} (h : (List.range k).all f = true) (hk : f k = true) : (List.range (k + 1)).all f = true := by
  rw [List.range_succ, List.all_append, h]; simp [hk]
theorem range_noP {f : Nat → Bool} {k n : Nat} (h : k < n) (hk : f k = false) : (List.range n).all f = false := by
  rw [Bool.eq_false_iff]; intro hh; rw [List.all_eq_true] at hh; have := hh k (List.mem_range.2 h); rw [hk] at this; cases this
theorem upAt_eq {l : List Int} {k : Nat} {u v : Int} (hu : l[k]? = some u) (hv : 0 < k → l[k - 1]? = some v) : upAt l k = (inB u 0 999 && (decide (k = 0) || decide (v < u))) := by
  cases k with
  | zero => simp [upAt, hu]
  | succ j => have := hv (by omega); simp only [Nat.add_sub_cancel] at this; simp [upAt, hu, this]
theorem upM_end {l : List Int} {k : Nat} (h : (List.range k).all (upAt l) = true) (h1 : k ≤ l.length) (h2 : ¬ k < l.length) : decide (((l.map icell).length : Int) ≤ 100) = upM l := by
  have : k = l.length := by omega
  subst this
  rw [upM, h, Bool.and_true]; exact decide_eq_decide.2 (by rw [List.length_map]; omega)
theorem prev_get {l : List Int} {k : Nat} (h : k < l.length) : ∃ c, 0 < k → l[k - 1]? = some c := ⟨(l[k - 1]?).getD 0, fun hk => by rw [List.getElem?_eq_getElem (by omega)]; rfl⟩
theorem upM_len {l : List Int} (h : 100 < l.length) : upM l = false := by rw [upM, decide_eq_false (by omega), Bool.false_and]
theorem upM_elt {l : List Int} {k : Nat} (h : k < l.length) (hk : upAt l k = false) : upM l = false := by rw [upM, range_noP h hk, Bool.and_false]
theorem upM_yes {l : List Int} {k : Nat} (h : (List.range k).all (upAt l) = true) (h1 : k ≤ l.length) (h2 : ¬ k < l.length) (h3 : l.length ≤ 100) : upM l = true := by rw [← upM_end h h1 h2, List.length_map, decide_eq_true (by omega)]
theorem and_no {p q : Bool} (h : q = false) : false = (p && q) := by rw [h, Bool.and_false]
theorem and_yes {p q r : Bool} (h1 : (!p) = false) (h2 : (!q) = false) (h : r = true) : true = (p && q && r) := by simp_all
theorem and_no1 {p q r : Bool} (h1 : (!p) = true) : false = (p && q && r) := by simp_all
theorem and_no2 {p q r : Bool} (h1 : (!q) = true) : false = (p && q && r) := by simp_all
theorem unitsRight_any {v : Value} {l : List Int} (w : World) (h : Rd w v 1 (l.map icell)) : FnV Tryd.prog 49 [v] w (.bool (upM l)) := by
  have hle := h.le_map
  have hln : (l.map icell).length = l.length := by simp
  refine FnV.of (n := 32) Tryd.func49 rfl rfl ?_; refine G.seq ?_; refine G.region ?_; refine G.v (rv_assign rfl) rfl ?_; refine G.done ?_; refine G.thenN ?_; refine G.seq ?_; refine G.seq ?_; refine G.region ?_; refine G.v (rv_move rfl) rfl ?_; refine G.v (rv_len rfl (by first | exact Rd.stays (by assumption))) rfl ?_; refine G.v (rv_move rfl) rfl ?_; refine G.done ?_; refine G.thenN ?_; refine G.block ?_
  -- loop 0: turned [7], kept [0, 5, 6]
  refine G.loopK (ι := Nat) (ks := [0, 5, 6]) (fun k => [(7, .int .i64 k)]) (fun _ => []) (fun k => k ≤ l.length ∧ (List.range k).all (upAt l) = true) (fun k => l.length - k) 0 (.cons rfl (.cons rfl (.cons rfl (.nil)))) rfl ?_ ?_ ?_
  · exact ⟨Nat.zero_le _, rfl⟩
  · exact ⟨rfl, trivial⟩
  rintro k ⟨hk, ht⟩
  by_cases hlt : k < l.length
  case' pos => (obtain ⟨b, hb⟩ := get_of_lt hlt; have he := get_map hb icell; obtain ⟨c, hb2⟩ := prev_get hlt; have he2 : 0 < k → (l.map icell)[k - 1]? = some (icell c) := fun h => get_map (hb2 h) icell; have hup := upAt_eq hb hb2)
  all_goals
   refine G.seq ?_; refine G.region ?_; refine G.v (rv_lss rfl rfl) rfl ?_; refine G.done ?_; refine G.thenN ?_; refine G.seq ?_; refine G.cond rfl (fun hc => ?_) (fun hc => ?_)
   · try exact Bool.noConfusion hc
     all_goals
      try replace hc := of_decide_eq_true hc
      try (exfalso; first | contradiction | omega)
      all_goals
       refine G.skip ?_; refine G.thenN ?_; refine G.seq ?_; refine G.block ?_; refine G.seq ?_; refine G.region ?_; refine G.v (rv_move rfl) rfl ?_
       (first | refine G.v (rv_indexH (k := k - 1) rfl rfl (Rd.stays h) (by have := of_decide_eq_true hg; omega) (he2 (by have := of_decide_eq_true hg; omega))) rfl ?_ | refine G.v (rv_indexH rfl rfl (by first | exact Rd.stays (by assumption)) rfl (by first | assumption | exact he2 (by have := of_decide_eq_true hg; omega))) rfl ?_ | refine G.v (rv_index rfl rfl (by first | exact Rd.stays (by assumption)) rfl (by assumption)) rfl ?_)
       refine G.v (rv_loadE rfl (by first | exact Rd.stays (by assumption)) (by first | assumption | exact he2 (by have := of_decide_eq_true hg; omega)) rfl) rfl ?_; refine G.v (rv_assign rfl) rfl ?_; refine G.v (rv_assign rfl) rfl ?_; refine G.done ?_; refine G.thenN ?_; refine G.seq ?_; refine G.region ?_; refine G.v (rv_move rfl) rfl ?_; refine G.op (og_callV rfl rfl (fun w _ => in_any _ _ _ w)) rfl (fun _ _ => ?_); refine G.v (rv_not rfl) rfl ?_; refine G.v (rv_move rfl) rfl ?_
       all_goals (((with_reducible refine G.gP rfl rfl (fun hg => ?_) (fun hg => ?_)) <;> (try exact Bool.noConfusion hg) <;> (first | (refine G.gY rfl rfl ?_; refine G.v (rv_move rfl) rfl ?_) | refine G.gN rfl rfl rfl ?_ | refine G.gU rfl rfl rfl ?_)))
       all_goals ((first | (refine G.gY rfl rfl ?_; refine G.v (rv_gtr rfl rfl) rfl ?_) | refine G.gN rfl rfl rfl ?_ | refine G.gU rfl rfl rfl ?_))
       all_goals ((first | (refine G.gY rfl rfl ?_; refine G.v (rv_move rfl) rfl ?_) | refine G.gN rfl rfl rfl ?_ | refine G.gU rfl rfl rfl ?_))
       all_goals ((first | refine G.gU rfl rfl rfl ?_ | ((with_reducible refine G.gP rfl rfl (fun hg => ?_) (fun hg => ?_)) <;> (try exact Bool.noConfusion hg) <;> (first | (refine G.gY rfl rfl ?_; refine G.v (rv_move rfl) rfl ?_) | refine G.gN rfl rfl rfl ?_ | refine G.gU rfl rfl rfl ?_))))
       all_goals ((first | (refine G.gY rfl rfl ?_; refine G.v (rv_move rfl) rfl ?_) | refine G.gN rfl rfl rfl ?_ | refine G.gU rfl rfl rfl ?_))
       all_goals ((first | (refine G.gY rfl rfl ?_; (first | refine G.v (rv_decr rfl rfl (by omega) (by omega)) rfl ?_ | refine G.v (rv_subB rfl rfl (by omega) (by omega)) rfl ?_)) | refine G.gN rfl rfl rfl ?_ | refine G.gU rfl rfl rfl ?_))
       all_goals ((first | (refine G.gY rfl rfl ?_; (first | refine G.v (rv_indexH (k := k - 1) rfl rfl (Rd.stays h) (by have := of_decide_eq_true hg; omega) (he2 (by have := of_decide_eq_true hg; omega))) rfl ?_ | refine G.v (rv_indexH rfl rfl (by first | exact Rd.stays (by assumption)) rfl (by first | assumption | exact he2 (by have := of_decide_eq_true hg; omega))) rfl ?_ | refine G.v (rv_index rfl rfl (by first | exact Rd.stays (by assumption)) rfl (by assumption)) rfl ?_)) | refine G.gN rfl rfl rfl ?_ | refine G.gU rfl rfl rfl ?_))
       all_goals ((first | (refine G.gY rfl rfl ?_; refine G.v (rv_loadE rfl (by first | exact Rd.stays (by assumption)) (by first | assumption | exact he2 (by have := of_decide_eq_true hg; omega)) rfl) rfl ?_) | refine G.gN rfl rfl rfl ?_ | refine G.gU rfl rfl rfl ?_))
       all_goals ((first | (refine G.gY rfl rfl ?_; refine G.v (rv_move rfl) rfl ?_) | refine G.gN rfl rfl rfl ?_ | refine G.gU rfl rfl rfl ?_))
       all_goals ((first | (refine G.gY rfl rfl ?_; refine G.v (rv_geq rfl rfl) rfl ?_) | refine G.gN rfl rfl rfl ?_ | refine G.gU rfl rfl rfl ?_))
       all_goals ((first | (refine G.gY rfl rfl ?_; (first | refine G.v (rv_pickT rfl rfl) rfl ?_ | refine G.v (rv_pickF rfl rfl) rfl ?_)) | refine G.gN rfl rfl rfl ?_ | refine G.gU rfl rfl rfl ?_))
       all_goals ((first | refine G.v (rv_pickT rfl rfl) rfl ?_ | refine G.v (rv_pickF rfl rfl) rfl ?_))
       all_goals
        refine G.done ?_; refine G.thenN ?_; refine G.cond rfl (fun hc => ?_) (fun hc => ?_)
        · try exact Bool.noConfusion hc
          all_goals
           try replace hc := of_decide_eq_true hc
           try (exfalso; first | contradiction | omega)
           all_goals
            refine G.seq ?_; refine G.region ?_; refine G.v (rv_assign rfl) rfl ?_; refine G.done ?_; refine G.thenN ?_; refine G.ret ?_; refine G.inR ?_; refine G.thenR ?_; refine G.thenR ?_; refine G.inR ?_; refine G.thenR ?_
            first | exact G.retFV rfl rfl (congrArg Value.bool (by rw [upM, range_noP hlt (by rw [hup]; (simp_all <;> omega)), Bool.and_false])) | exact G.retFV rfl rfl (congrArg Value.bool (upM_end ht hk (by omega)))
        · try exact Bool.noConfusion hc
          all_goals
           try replace hc := of_decide_eq_false hc
           try (exfalso; first | contradiction | omega)
           all_goals
            refine G.skip ?_; refine G.inN ?_; refine G.thenN ?_; refine G.region ?_
            (first | refine G.v (rv_incr rfl rfl (by omega)) rfl ?_ | refine G.v (rv_addB rfl rfl (by omega) (by omega)) rfl ?_)
            refine G.v (rv_move rfl) rfl ?_; refine G.done ?_
            first | refine G.backK (k + 1) 0 rfl (.cons rfl (.cons rfl (.cons rfl (.nil)))) ?_ ?_ ?_ | refine G.backK (k + 1) 1 rfl (.cons rfl (.cons rfl (.cons rfl (.nil)))) ?_ ?_ ?_ | refine G.backK (k + 1) 2 rfl (.cons rfl (.cons rfl (.cons rfl (.nil)))) ?_ ?_ ?_ | refine G.backK (k + 1) 3 rfl (.cons rfl (.cons rfl (.cons rfl (.nil)))) ?_ ?_ ?_
            · exact ⟨rfl, trivial⟩
            · exact ⟨hlt, range_next ht (by rw [hup]; (simp_all <;> omega))⟩
            · omega
   · try exact Bool.noConfusion hc
     all_goals
      try replace hc := of_decide_eq_false hc
      try (exfalso; first | contradiction | omega)
      all_goals
       refine G.exit ?_; refine G.thenX ?_; refine G.thenX ?_; refine G.inX ?_; refine G.thenN ?_; refine G.seq ?_; refine G.region ?_; refine G.v (rv_move rfl) rfl ?_; refine G.v (rv_len rfl (by first | exact Rd.stays (by assumption))) rfl ?_; refine G.v (rv_leq rfl rfl) rfl ?_; refine G.v (rv_assign rfl) rfl ?_; refine G.done ?_; refine G.thenN ?_; refine G.ret ?_
       first | exact G.retFV rfl rfl (congrArg Value.bool (by rw [upM, range_noP hlt (by rw [hup]; (simp_all <;> omega)), Bool.and_false])) | exact G.retFV rfl rfl (congrArg Value.bool (upM_end ht hk (by omega)))
theorem l13Carton_any (a : CartonM × Value) (w : World) (h : Rd w a.2 1 (a.1.l.map icell)) : FnV Tryd.prog 43 [.agg (CartonM.cells a).toArray] w (.bool (inB a.1.t 0 999 && inB a.1.g 0 3 && upM a.1.l)) := by
  have hle := h.le_map
  have hln : (a.1.l.map icell).length = a.1.l.length := by simp
  refine FnV.of (n := 52) Tryd.func43 rfl rfl ?_; refine G.seq ?_; refine G.region ?_; refine G.op (og_box rfl rfl) rfl (fun bk1 _ => ?_); refine G.v (rv_assign rfl) rfl ?_; refine G.done ?_; refine G.thenN ?_; refine G.seq ?_; refine G.seq ?_; refine G.region ?_
  (first | refine G.v (rv_field rfl) rfl ?_ | refine G.v (rv_fieldE rfl) rfl ?_)
  refine G.v (rv_load1 0 rfl rfl rfl) rfl ?_; refine G.op (og_callV rfl rfl (fun w _ => l2Id_any _ w)) rfl (fun _ _ => ?_); refine G.v (rv_not rfl) rfl ?_; refine G.v (rv_move rfl) rfl ?_
  all_goals (((with_reducible refine G.gP rfl rfl (fun hg => ?_) (fun hg => ?_)) <;> (try exact Bool.noConfusion hg) <;> (first | (refine G.gY rfl rfl ?_; (first | refine G.v (rv_field rfl) rfl ?_ | refine G.v (rv_fieldE rfl) rfl ?_)) | refine G.gN rfl rfl rfl ?_ | refine G.gU rfl rfl rfl ?_)))
  all_goals ((first | (refine G.gY rfl rfl ?_; refine G.v (rv_load1 0 rfl rfl rfl) rfl ?_) | refine G.gN rfl rfl rfl ?_ | refine G.gU rfl rfl rfl ?_))
  all_goals ((first | (refine G.gY rfl rfl ?_; refine G.op (og_callV rfl rfl (fun w _ => l1In_any _ _ _ w)) rfl (fun _ _ => ?_)) | refine G.gN rfl rfl rfl ?_ | refine G.gU rfl rfl rfl ?_))
  all_goals ((first | (refine G.gY rfl rfl ?_; refine G.v (rv_not rfl) rfl ?_) | refine G.gN rfl rfl rfl ?_ | refine G.gU rfl rfl rfl ?_))
  all_goals ((first | refine G.v (rv_pickT rfl rfl) rfl ?_ | refine G.v (rv_pickF rfl rfl) rfl ?_))
  all_goals (refine G.v (rv_move rfl) rfl ?_)
  all_goals (((with_reducible refine G.gP rfl rfl (fun hg => ?_) (fun hg => ?_)) <;> (try exact Bool.noConfusion hg) <;> (first | (refine G.gY rfl rfl ?_; (first | refine G.v (rv_field rfl) rfl ?_ | refine G.v (rv_fieldE rfl) rfl ?_)) | refine G.gN rfl rfl rfl ?_ | refine G.gU rfl rfl rfl ?_)))
  all_goals ((first | (refine G.gY rfl rfl ?_; refine G.v (rv_load1 0 rfl rfl rfl) rfl ?_) | refine G.gN rfl rfl rfl ?_ | refine G.gU rfl rfl rfl ?_))
  all_goals ((first | (refine G.gY rfl rfl ?_; refine G.v (rv_len rfl (by first | exact Rd.stays (by assumption) | exact Rd.owned 0 rfl)) rfl ?_) | refine G.gN rfl rfl rfl ?_ | refine G.gU rfl rfl rfl ?_))
  all_goals ((first | (refine G.gY rfl rfl ?_; refine G.v (rv_gtr rfl rfl) rfl ?_) | refine G.gN rfl rfl rfl ?_ | refine G.gU rfl rfl rfl ?_))
  all_goals ((first | refine G.v (rv_pickT rfl rfl) rfl ?_ | refine G.v (rv_pickF rfl rfl) rfl ?_))
  all_goals
   refine G.done ?_; refine G.thenN ?_; refine G.cond rfl (fun hc => ?_) (fun hc => ?_)
   · try exact Bool.noConfusion hc
     all_goals
      try replace hc := of_decide_eq_true hc
      try (exfalso; first | contradiction | omega)
      all_goals
       refine G.seq ?_; refine G.region ?_; refine G.v (rv_assign rfl) rfl ?_; refine G.done ?_; refine G.thenN ?_; refine G.ret ?_; refine G.thenR ?_
       first | exact G.retFV rfl rfl (congrArg Value.bool (and_no1 (by assumption))) | exact G.retFV rfl rfl (congrArg Value.bool (and_no2 (by assumption))) | exact G.retFV rfl rfl (congrArg Value.bool (and_no (upM_len (by omega)))) | exact G.retFV rfl rfl (congrArg Value.bool (and_no (upM_elt hlt (by rw [hup]; (simp_all <;> omega))))) | exact G.retFV rfl rfl (congrArg Value.bool (and_yes (by assumption) (by assumption) (upM_yes ht hk hlt (by omega))))
   · try exact Bool.noConfusion hc
     all_goals
      try replace hc := of_decide_eq_false hc
      try (exfalso; first | contradiction | omega)
      all_goals
       refine G.skip ?_; refine G.thenN ?_; refine G.seq ?_; refine G.seq ?_; refine G.region ?_; refine G.v (rv_assign rfl) rfl ?_; refine G.done ?_; refine G.thenN ?_; refine G.block ?_
       -- loop 0: turned [3], kept [1]
       refine G.loopK (ι := Nat) (ks := [1]) (fun k => [(3, .int .i64 k)]) (fun _ => []) (fun k => k ≤ a.1.l.length ∧ (List.range k).all (upAt a.1.l) = true) (fun k => a.1.l.length - k) 0 (.cons rfl (.nil)) rfl ?_ ?_ ?_
       · exact ⟨Nat.zero_le _, rfl⟩
       · exact ⟨rfl, trivial⟩
       rintro k ⟨hk, ht⟩
       by_cases hlt : k < a.1.l.length
       case' pos => (obtain ⟨b, hb⟩ := get_of_lt hlt; have he := get_map hb icell; obtain ⟨c, hb2⟩ := prev_get hlt; have he2 : 0 < k → (a.1.l.map icell)[k - 1]? = some (icell c) := fun h => get_map (hb2 h) icell; have hup := upAt_eq hb hb2)
       all_goals
        refine G.seq ?_; refine G.seq ?_; refine G.region ?_; refine G.v (rv_move rfl) rfl ?_
        (first | refine G.v (rv_field rfl) rfl ?_ | refine G.v (rv_fieldE rfl) rfl ?_)
        refine G.v (rv_load1 0 rfl rfl rfl) rfl ?_; refine G.v (rv_len rfl (by first | exact Rd.stays (by assumption) | exact Rd.owned 0 rfl)) rfl ?_; refine G.v (rv_lss rfl rfl) rfl ?_; refine G.done ?_; refine G.thenN ?_; refine G.cond rfl (fun hc => ?_) (fun hc => ?_)
        · try exact Bool.noConfusion hc
          all_goals
           try replace hc := of_decide_eq_true hc
           try (exfalso; first | contradiction | omega)
           all_goals
            refine G.skip ?_; refine G.thenN ?_; refine G.seq ?_; refine G.block ?_; refine G.seq ?_; refine G.drawL [] ?_
            (first | refine GE.q 0 rfl (by as_aux_lemma => kernel_rfl) rfl (qg_runs (rv_field rfl)) rfl ?_ | refine GE.q 0 rfl (by as_aux_lemma => kernel_rfl) rfl (qg_runs (rv_fieldE rfl)) rfl ?_)
            refine GE.q 1 rfl (by as_aux_lemma => kernel_rfl) rfl (qg_runs (rv_load1 0 rfl rfl rfl)) rfl ?_; refine GE.ol 2 (by as_aux_lemma => kernel_rfl) rfl rfl (og_runs (rv_move rfl)) rfl (fun _ _ h => by first | exact h | exact h.drop 1 | exact h.drop 2 | exact h.drop 3 | exact h.drop 4 | exact h.drop 5 | exact h.drop 6 | exact h.drop 7 | exact h.drop 8 | exact h.drop 9 | exact h.drop 10 | exact h.drop 11 | exact h.drop 12 | exact h.drop 13) (fun _ _ => ?_)
            (first | refine GE.ol 3 (by as_aux_lemma => kernel_rfl) rfl rfl (og_runs (rv_indexH (k := k - 1) rfl rfl (Rd.stays h) (by have := of_decide_eq_true hg; omega) (he2 (by have := of_decide_eq_true hg; omega)))) rfl (fun _ _ h => by first | exact h | exact h.drop 1 | exact h.drop 2 | exact h.drop 3 | exact h.drop 4 | exact h.drop 5 | exact h.drop 6 | exact h.drop 7 | exact h.drop 8 | exact h.drop 9 | exact h.drop 10 | exact h.drop 11 | exact h.drop 12 | exact h.drop 13) (fun _ _ => ?_) | refine GE.ol 3 (by as_aux_lemma => kernel_rfl) rfl rfl (og_runs (rv_indexH rfl rfl (by first | exact Rd.stays (by assumption) | exact Rd.owned 0 rfl) rfl (by first | assumption | exact he2 (by have := of_decide_eq_true hg; omega)))) rfl (fun _ _ h => by first | exact h | exact h.drop 1 | exact h.drop 2 | exact h.drop 3 | exact h.drop 4 | exact h.drop 5 | exact h.drop 6 | exact h.drop 7 | exact h.drop 8 | exact h.drop 9 | exact h.drop 10 | exact h.drop 11 | exact h.drop 12 | exact h.drop 13) (fun _ _ => ?_) | refine GE.ol 3 (by as_aux_lemma => kernel_rfl) rfl rfl (og_runs (rv_index rfl rfl (by first | exact Rd.stays (by assumption) | exact Rd.owned 0 rfl) rfl (by assumption))) rfl (fun _ _ h => by first | exact h | exact h.drop 1 | exact h.drop 2 | exact h.drop 3 | exact h.drop 4 | exact h.drop 5 | exact h.drop 6 | exact h.drop 7 | exact h.drop 8 | exact h.drop 9 | exact h.drop 10 | exact h.drop 11 | exact h.drop 12 | exact h.drop 13) (fun _ _ => ?_))
            refine GE.ol 4 (by as_aux_lemma => kernel_rfl) rfl rfl (og_runs (rv_loadE rfl (by first | exact Rd.stays (by assumption) | exact Rd.owned 0 rfl) (by first | assumption | exact he2 (by have := of_decide_eq_true hg; omega)) rfl)) rfl (fun _ _ h => by first | exact h | exact h.drop 1 | exact h.drop 2 | exact h.drop 3 | exact h.drop 4 | exact h.drop 5 | exact h.drop 6 | exact h.drop 7 | exact h.drop 8 | exact h.drop 9 | exact h.drop 10 | exact h.drop 11 | exact h.drop 12 | exact h.drop 13) (fun _ _ => ?_); refine GE.ol 5 (by as_aux_lemma => kernel_rfl) rfl rfl (og_callV rfl rfl (fun w _ => l1In_any _ _ _ w)) rfl (fun _ _ h => by first | exact h | exact h.drop 1 | exact h.drop 2 | exact h.drop 3 | exact h.drop 4 | exact h.drop 5 | exact h.drop 6 | exact h.drop 7 | exact h.drop 8 | exact h.drop 9 | exact h.drop 10 | exact h.drop 11 | exact h.drop 12 | exact h.drop 13) (fun _ _ => ?_); refine GE.ol 6 (by as_aux_lemma => kernel_rfl) rfl rfl (og_runs (rv_not rfl)) rfl (fun _ _ h => by first | exact h | exact h.drop 1 | exact h.drop 2 | exact h.drop 3 | exact h.drop 4 | exact h.drop 5 | exact h.drop 6 | exact h.drop 7 | exact h.drop 8 | exact h.drop 9 | exact h.drop 10 | exact h.drop 11 | exact h.drop 12 | exact h.drop 13) (fun _ _ => ?_)
            refine GE.ol 7 (by as_aux_lemma => kernel_rfl) rfl rfl (og_runs (rv_move rfl)) rfl (fun _ _ h => by first | exact h | exact h.drop 1 | exact h.drop 2 | exact h.drop 3 | exact h.drop 4 | exact h.drop 5 | exact h.drop 6 | exact h.drop 7 | exact h.drop 8 | exact h.drop 9 | exact h.drop 10 | exact h.drop 11 | exact h.drop 12 | exact h.drop 13) (fun _ _ => ?_)
            all_goals (((with_reducible refine GE.part (t := 34) rfl (fun hg => ?_) (fun hg => ?_)) <;> (try exact Bool.noConfusion hg) <;> (first | refine GE.q 8 rfl (by as_aux_lemma => kernel_rfl) rfl (qg_runs (rv_move rfl)) rfl ?_ | refine GE.qn 8 rfl (by as_aux_lemma => kernel_rfl) rfl rfl ?_)))
            all_goals ((first | refine GE.q 9 rfl (by as_aux_lemma => kernel_rfl) rfl (qg_runs (rv_gtr rfl rfl)) rfl ?_ | refine GE.qn 9 rfl (by as_aux_lemma => kernel_rfl) rfl rfl ?_))
            all_goals ((first | refine GE.q 10 rfl (by as_aux_lemma => kernel_rfl) rfl (qg_runs (rv_move rfl)) rfl ?_ | refine GE.qn 10 rfl (by as_aux_lemma => kernel_rfl) rfl rfl ?_))
            all_goals ((first | refine GE.qn 11 rfl (by as_aux_lemma => kernel_rfl) rfl rfl ?_ | ((with_reducible refine GE.part (t := 37) rfl (fun hg => ?_) (fun hg => ?_)) <;> (try exact Bool.noConfusion hg) <;> (first | (first | refine GE.q 11 rfl (by as_aux_lemma => kernel_rfl) rfl (qg_runs (rv_field rfl)) rfl ?_ | refine GE.q 11 rfl (by as_aux_lemma => kernel_rfl) rfl (qg_runs (rv_fieldE rfl)) rfl ?_) | refine GE.qn 11 rfl (by as_aux_lemma => kernel_rfl) rfl rfl ?_))))
            all_goals ((first | refine GE.q 12 rfl (by as_aux_lemma => kernel_rfl) rfl (qg_runs (rv_load1 0 rfl rfl rfl)) rfl ?_ | refine GE.qn 12 rfl (by as_aux_lemma => kernel_rfl) rfl rfl ?_))
            all_goals ((first | refine GE.q 13 rfl (by as_aux_lemma => kernel_rfl) rfl (qg_runs (rv_move rfl)) rfl ?_ | refine GE.qn 13 rfl (by as_aux_lemma => kernel_rfl) rfl rfl ?_))
            all_goals ((first | (first | refine GE.q 14 rfl (by as_aux_lemma => kernel_rfl) rfl (qg_runs (rv_indexH (k := k - 1) rfl rfl (Rd.stays h) (by have := of_decide_eq_true hg; omega) (he2 (by have := of_decide_eq_true hg; omega)))) rfl ?_ | refine GE.q 14 rfl (by as_aux_lemma => kernel_rfl) rfl (qg_runs (rv_indexH rfl rfl (by first | exact Rd.stays (by assumption) | exact Rd.owned 0 rfl) rfl (by first | assumption | exact he2 (by have := of_decide_eq_true hg; omega)))) rfl ?_ | refine GE.q 14 rfl (by as_aux_lemma => kernel_rfl) rfl (qg_runs (rv_index rfl rfl (by first | exact Rd.stays (by assumption) | exact Rd.owned 0 rfl) rfl (by assumption))) rfl ?_) | refine GE.qn 14 rfl (by as_aux_lemma => kernel_rfl) rfl rfl ?_))
            all_goals ((first | refine GE.q 15 rfl (by as_aux_lemma => kernel_rfl) rfl (qg_runs (rv_loadE rfl (by first | exact Rd.stays (by assumption) | exact Rd.owned 0 rfl) (by first | assumption | exact he2 (by have := of_decide_eq_true hg; omega)) rfl)) rfl ?_ | refine GE.qn 15 rfl (by as_aux_lemma => kernel_rfl) rfl rfl ?_))
            all_goals ((first | (first | refine GE.q 16 rfl (by as_aux_lemma => kernel_rfl) rfl (qg_runs (rv_field rfl)) rfl ?_ | refine GE.q 16 rfl (by as_aux_lemma => kernel_rfl) rfl (qg_runs (rv_fieldE rfl)) rfl ?_) | refine GE.qn 16 rfl (by as_aux_lemma => kernel_rfl) rfl rfl ?_))
            all_goals ((first | refine GE.q 17 rfl (by as_aux_lemma => kernel_rfl) rfl (qg_runs (rv_load1 0 rfl rfl rfl)) rfl ?_ | refine GE.qn 17 rfl (by as_aux_lemma => kernel_rfl) rfl rfl ?_))
            all_goals ((first | refine GE.q 18 rfl (by as_aux_lemma => kernel_rfl) rfl (qg_runs (rv_move rfl)) rfl ?_ | refine GE.qn 18 rfl (by as_aux_lemma => kernel_rfl) rfl rfl ?_))
            all_goals ((first | (first | refine GE.q 19 rfl (by as_aux_lemma => kernel_rfl) rfl (qg_runs (rv_decr rfl rfl (by omega) (by omega))) rfl ?_ | refine GE.q 19 rfl (by as_aux_lemma => kernel_rfl) rfl (qg_runs (rv_subB rfl rfl (by omega) (by omega))) rfl ?_) | refine GE.qn 19 rfl (by as_aux_lemma => kernel_rfl) rfl rfl ?_))
            all_goals ((first | (first | refine GE.q 20 rfl (by as_aux_lemma => kernel_rfl) rfl (qg_runs (rv_indexH (k := k - 1) rfl rfl (Rd.stays h) (by have := of_decide_eq_true hg; omega) (he2 (by have := of_decide_eq_true hg; omega)))) rfl ?_ | refine GE.q 20 rfl (by as_aux_lemma => kernel_rfl) rfl (qg_runs (rv_indexH rfl rfl (by first | exact Rd.stays (by assumption) | exact Rd.owned 0 rfl) rfl (by first | assumption | exact he2 (by have := of_decide_eq_true hg; omega)))) rfl ?_ | refine GE.q 20 rfl (by as_aux_lemma => kernel_rfl) rfl (qg_runs (rv_index rfl rfl (by first | exact Rd.stays (by assumption) | exact Rd.owned 0 rfl) rfl (by assumption))) rfl ?_) | refine GE.qn 20 rfl (by as_aux_lemma => kernel_rfl) rfl rfl ?_))
            all_goals ((first | refine GE.q 21 rfl (by as_aux_lemma => kernel_rfl) rfl (qg_runs (rv_loadE rfl (by first | exact Rd.stays (by assumption) | exact Rd.owned 0 rfl) (by first | assumption | exact he2 (by have := of_decide_eq_true hg; omega)) rfl)) rfl ?_ | refine GE.qn 21 rfl (by as_aux_lemma => kernel_rfl) rfl rfl ?_))
            all_goals ((first | refine GE.q 22 rfl (by as_aux_lemma => kernel_rfl) rfl (qg_runs (rv_leq rfl rfl)) rfl ?_ | refine GE.qn 22 rfl (by as_aux_lemma => kernel_rfl) rfl rfl ?_))
            all_goals ((first | (first | refine GE.q 23 rfl (by as_aux_lemma => kernel_rfl) rfl (qg_runs (rv_pickT rfl rfl)) rfl ?_ | refine GE.q 23 rfl (by as_aux_lemma => kernel_rfl) rfl (qg_runs (rv_pickF rfl rfl)) rfl ?_) | refine GE.qn 23 rfl (by as_aux_lemma => kernel_rfl) rfl rfl ?_))
            all_goals ((first | refine GE.ol 24 (by as_aux_lemma => kernel_rfl) rfl rfl (og_runs (rv_pickT rfl rfl)) rfl (fun _ _ h => by first | exact h | exact h.drop 1 | exact h.drop 2 | exact h.drop 3 | exact h.drop 4 | exact h.drop 5 | exact h.drop 6 | exact h.drop 7 | exact h.drop 8 | exact h.drop 9 | exact h.drop 10 | exact h.drop 11 | exact h.drop 12 | exact h.drop 13) (fun _ _ => ?_) | refine GE.ol 24 (by as_aux_lemma => kernel_rfl) rfl rfl (og_runs (rv_pickF rfl rfl)) rfl (fun _ _ h => by first | exact h | exact h.drop 1 | exact h.drop 2 | exact h.drop 3 | exact h.drop 4 | exact h.drop 5 | exact h.drop 6 | exact h.drop 7 | exact h.drop 8 | exact h.drop 9 | exact h.drop 10 | exact h.drop 11 | exact h.drop 12 | exact h.drop 13) (fun _ _ => ?_)))
            all_goals
             refine GE.done (by as_aux_lemma => kernel_rfl) ?_; refine G.thenN ?_; refine G.cond rfl (fun hc => ?_) (fun hc => ?_)
             · try exact Bool.noConfusion hc
               all_goals
                try replace hc := of_decide_eq_true hc
                try (exfalso; first | contradiction | omega)
                all_goals
                 refine G.seq ?_; refine G.region ?_; refine G.v (rv_assign rfl) rfl ?_; refine G.done ?_; refine G.thenN ?_; refine G.ret ?_; refine G.inR ?_; refine G.thenR ?_; refine G.thenR ?_; refine G.inR ?_; refine G.thenR ?_
                 first | exact G.retFV rfl rfl (congrArg Value.bool (and_no1 (by assumption))) | exact G.retFV rfl rfl (congrArg Value.bool (and_no2 (by assumption))) | exact G.retFV rfl rfl (congrArg Value.bool (and_no (upM_len (by omega)))) | exact G.retFV rfl rfl (congrArg Value.bool (and_no (upM_elt hlt (by rw [hup]; (simp_all <;> omega))))) | exact G.retFV rfl rfl (congrArg Value.bool (and_yes (by assumption) (by assumption) (upM_yes ht hk hlt (by omega))))
             · try exact Bool.noConfusion hc
               all_goals
                try replace hc := of_decide_eq_false hc
                try (exfalso; first | contradiction | omega)
                all_goals
                 refine G.skip ?_; refine G.inN ?_; refine G.thenN ?_; refine G.region ?_; refine G.v (rv_move rfl) rfl ?_
                 (first | refine G.v (rv_incr rfl rfl (by omega)) rfl ?_ | refine G.v (rv_addB rfl rfl (by omega) (by omega)) rfl ?_)
                 refine G.v (rv_assign rfl) rfl ?_; refine G.done ?_
                 first | refine G.backK (k + 1) 0 rfl (.cons rfl (.nil)) ?_ ?_ ?_ | refine G.backK (k + 1) 1 rfl (.cons rfl (.nil)) ?_ ?_ ?_ | refine G.backK (k + 1) 2 rfl (.cons rfl (.nil)) ?_ ?_ ?_ | refine G.backK (k + 1) 3 rfl (.cons rfl (.nil)) ?_ ?_ ?_
                 · exact ⟨rfl, trivial⟩
                 · exact ⟨hlt, range_next ht (by rw [hup]; (simp_all <;> omega))⟩
                 · omega
        · try exact Bool.noConfusion hc
          all_goals
           try replace hc := of_decide_eq_false hc
           try (exfalso; first | contradiction | omega)
           all_goals
            refine G.exit ?_; refine G.thenX ?_; refine G.thenX ?_; refine G.inX ?_; refine G.thenN ?_; refine G.seq ?_; refine G.region ?_; refine G.v (rv_assign rfl) rfl ?_; refine G.done ?_; refine G.thenN ?_; refine G.ret ?_
            first | exact G.retFV rfl rfl (congrArg Value.bool (and_no1 (by assumption))) | exact G.retFV rfl rfl (congrArg Value.bool (and_no2 (by assumption))) | exact G.retFV rfl rfl (congrArg Value.bool (and_no (upM_len (by omega)))) | exact G.retFV rfl rfl (congrArg Value.bool (and_no (upM_elt hlt (by rw [hup]; (simp_all <;> omega))))) | exact G.retFV rfl rfl (congrArg Value.bool (and_yes (by assumption) (by assumption) (upM_yes ht hk hlt (by omega))))
def planAt (cs : List CartonM) (ss : List SpotM) (i : Nat) : Bool := match cs[i]?, ss[i]? with
  | some c, some s => (inB c.t 0 999 && inB c.g 0 3 && upM c.l) && inB s.p 0 2000 && inB s.x 0 2000 && inB s.y 0 2000 && inB s.z 0 2000
  | _, _ => true
def planOkM (cs : List CartonM) (ss : List SpotM) : Bool := decide (ss.length = cs.length) && decide (cs.length ≤ 100) && (List.range cs.length).all (planAt cs ss)
theorem planAt_eq {cs : List (CartonM × Value)} {ss : List SpotM} {k : Nat} {c : CartonM × Value} {s : SpotM} (h : cs[k]? = some c) (h2 : ss[k]? = some s) :
    planAt (cs.map Prod.fst) ss k = ((inB c.1.t 0 999 && inB c.1.g 0 3 && upM c.1.l) && inB s.p 0 2000 && inB s.x 0 2000 && inB s.y 0 2000 && inB s.z 0 2000) := by
  simp [planAt, h, h2]
theorem planOk_len {cs : List (CartonM × Value)} {ss : List SpotM} (h : ss.length ≠ cs.length) : false = planOkM (cs.map Prod.fst) ss := by
  rw [planOkM, List.length_map, decide_eq_false h]; rfl
theorem planOk_many {cs : List (CartonM × Value)} {ss : List SpotM} (h : 100 < cs.length) : false = planOkM (cs.map Prod.fst) ss := by
  rw [planOkM, List.length_map, decide_eq_false (p := cs.length ≤ 100) (by omega), Bool.and_false]; rfl
theorem planOk_elt {cs : List (CartonM × Value)} {ss : List SpotM} {k : Nat} (h : k < cs.length) (hk : planAt (cs.map Prod.fst) ss k = false) : false = planOkM (cs.map Prod.fst) ss := by
  rw [planOkM, List.length_map, range_noP h hk, Bool.and_false]
theorem planOk_yes {cs : List (CartonM × Value)} {ss : List SpotM} {k : Nat} (h : (List.range k).all (planAt (cs.map Prod.fst) ss) = true) (h1 : k ≤ cs.length) (h2 : ¬ k < cs.length) (h3 : ss.length = cs.length) (h4 : cs.length ≤ 100) : true = planOkM (cs.map Prod.fst) ss := by
  have : k = cs.length := by omega
  subst this
  rw [planOkM, List.length_map, h, decide_eq_true h3, decide_eq_true h4]; rfl
theorem implPlanOk_any {cv sv : Value} {cs : List (CartonM × Value)} {ss : List SpotM} (w : World) (h : Rd w cv 3 (cs.map CartonM.cells)) (hs : Subs w CartonM.l cs) (h3 : Rd w sv 4 (ss.map SpotM.cells)) : FnV Tryd.prog 27 [.agg [cv, sv].toArray] w (.bool (planOkM (cs.map Prod.fst) ss)) := by
  have hle := h.le_map
  have hln : (cs.map CartonM.cells).length = cs.length := by simp
  have hln2 : (ss.map SpotM.cells).length = ss.length := by simp
  refine FnV.of (n := 73) Tryd.func27 rfl rfl ?_; refine G.seq ?_; refine G.region ?_; refine G.op (og_box rfl rfl) rfl (fun bk1 _ => ?_); refine G.v (rv_assign rfl) rfl ?_; refine G.done ?_; refine G.thenN ?_; refine G.seq ?_; refine G.seq ?_; refine G.region ?_
  (first | refine G.v (rv_field rfl) rfl ?_ | refine G.v (rv_fieldE rfl) rfl ?_)
  (first | refine G.v (rv_load1 0 rfl rfl rfl) rfl ?_ | refine G.v (rv_load1 1 rfl rfl rfl) rfl ?_ | refine G.v (rv_load1 2 rfl rfl rfl) rfl ?_ | refine G.v (rv_load1 3 rfl rfl rfl) rfl ?_)
  refine G.v (rv_len rfl (by first | exact Rd.stays (by assumption) | exact Rd.owned 0 rfl | exact Rd.owned 1 rfl | exact Rd.owned 2 rfl | exact Rd.owned 3 rfl)) rfl ?_
  (first | refine G.v (rv_field rfl) rfl ?_ | refine G.v (rv_fieldE rfl) rfl ?_)
  (first | refine G.v (rv_load1 0 rfl rfl rfl) rfl ?_ | refine G.v (rv_load1 1 rfl rfl rfl) rfl ?_ | refine G.v (rv_load1 2 rfl rfl rfl) rfl ?_ | refine G.v (rv_load1 3 rfl rfl rfl) rfl ?_)
  refine G.v (rv_len rfl (by first | exact Rd.stays (by assumption) | exact Rd.owned 0 rfl | exact Rd.owned 1 rfl | exact Rd.owned 2 rfl | exact Rd.owned 3 rfl)) rfl ?_; refine G.v (rv_neq rfl rfl) rfl ?_; refine G.v (rv_move rfl) rfl ?_
  all_goals (((with_reducible refine G.gP rfl rfl (fun hg => ?_) (fun hg => ?_)) <;> (try exact Bool.noConfusion hg) <;> (first | (refine G.gY rfl rfl ?_; (first | refine G.v (rv_field rfl) rfl ?_ | refine G.v (rv_fieldE rfl) rfl ?_)) | refine G.gN rfl rfl rfl ?_ | refine G.gU rfl rfl rfl ?_)))
  all_goals ((first | (refine G.gY rfl rfl ?_; (first | refine G.v (rv_load1 0 rfl rfl rfl) rfl ?_ | refine G.v (rv_load1 1 rfl rfl rfl) rfl ?_ | refine G.v (rv_load1 2 rfl rfl rfl) rfl ?_ | refine G.v (rv_load1 3 rfl rfl rfl) rfl ?_)) | refine G.gN rfl rfl rfl ?_ | refine G.gU rfl rfl rfl ?_))
  all_goals ((first | (refine G.gY rfl rfl ?_; refine G.v (rv_len rfl (by first | exact Rd.stays (by assumption) | exact Rd.owned 0 rfl | exact Rd.owned 1 rfl | exact Rd.owned 2 rfl | exact Rd.owned 3 rfl)) rfl ?_) | refine G.gN rfl rfl rfl ?_ | refine G.gU rfl rfl rfl ?_))
  all_goals ((first | (refine G.gY rfl rfl ?_; refine G.v (rv_gtr rfl rfl) rfl ?_) | refine G.gN rfl rfl rfl ?_ | refine G.gU rfl rfl rfl ?_))
  all_goals ((first | refine G.v (rv_pickT rfl rfl) rfl ?_ | refine G.v (rv_pickF rfl rfl) rfl ?_))
  all_goals
   refine G.done ?_; refine G.thenN ?_; refine G.cond rfl (fun hc => ?_) (fun hc => ?_)
   · try exact Bool.noConfusion hc
     all_goals
      try replace hc := of_decide_eq_true hc
      try (exfalso; first | contradiction | omega)
      all_goals
       refine G.seq ?_; refine G.region ?_; refine G.v (rv_assign rfl) rfl ?_; refine G.done ?_; refine G.thenN ?_; refine G.ret ?_; refine G.thenR ?_
       first | exact G.retFV rfl rfl (congrArg Value.bool (planOk_yes ht hk hlt hlen (by omega))) | exact G.retFV rfl rfl (congrArg Value.bool (planOk_elt hlt (by rw [hpa, Bool.eq_false_iff]; (intro hh; simp_all; done)))) | exact G.retFV rfl rfl (congrArg Value.bool (planOk_many (by omega))) | exact G.retFV rfl rfl (congrArg Value.bool (planOk_len (by have := of_decide_eq_true hg; omega)))
   · try exact Bool.noConfusion hc
     all_goals
      try replace hc := of_decide_eq_false hc
      try (exfalso; first | contradiction | omega)
      all_goals
       refine G.skip ?_; refine G.thenN ?_; refine G.seq ?_; refine G.seq ?_; refine G.region ?_
       (first | refine G.v (rv_field rfl) rfl ?_ | refine G.v (rv_fieldE rfl) rfl ?_)
       (first | refine G.v (rv_load1 0 rfl rfl rfl) rfl ?_ | refine G.v (rv_load1 1 rfl rfl rfl) rfl ?_ | refine G.v (rv_load1 2 rfl rfl rfl) rfl ?_ | refine G.v (rv_load1 3 rfl rfl rfl) rfl ?_)
       refine G.v (rv_len rfl (by first | exact Rd.stays (by assumption) | exact Rd.owned 0 rfl | exact Rd.owned 1 rfl | exact Rd.owned 2 rfl | exact Rd.owned 3 rfl)) rfl ?_; refine G.v (rv_move rfl) rfl ?_; refine G.done ?_; refine G.thenN ?_; refine G.block ?_
       -- loop 0: turned [22], kept [1, 20, 21]
       have hlen : ss.length = cs.length := by have := of_decide_eq_false hg; omega
       refine G.loopK (ι := Nat) (ks := [1, 20, 21]) (fun k => [(22, .int .i64 k)]) (fun _ => []) (fun k => k ≤ cs.length ∧ (List.range k).all (planAt (cs.map Prod.fst) ss) = true) (fun k => cs.length - k) 0 (.cons rfl (.cons rfl (.cons rfl (.nil)))) rfl ?_ ?_ ?_
       · exact ⟨Nat.zero_le _, rfl⟩
       · exact ⟨rfl, trivial⟩
       rintro k ⟨hk, ht⟩
       by_cases hlt : k < cs.length
       case' pos => (obtain ⟨b, hb⟩ := get_of_lt hlt; obtain ⟨s, hb2⟩ := get_of_lt (l := ss) (k := k) (by omega); have he := get_map hb CartonM.cells; have he2 := get_map hb2 SpotM.cells; have hov : b.2.oneCell' = true := (h.good _ (List.mem_of_getElem? he)).2 b.2 (by simp [CartonM.cells]); have hpa := planAt_eq hb hb2)
       all_goals
        refine G.seq ?_; refine G.region ?_; refine G.v (rv_lss rfl rfl) rfl ?_; refine G.done ?_; refine G.thenN ?_; refine G.seq ?_; refine G.cond rfl (fun hc => ?_) (fun hc => ?_)
        · try exact Bool.noConfusion hc
          all_goals
           try replace hc := of_decide_eq_true hc
           try (exfalso; first | contradiction | omega)
           all_goals
            refine G.skip ?_; refine G.thenN ?_; refine G.seq ?_; refine G.block ?_; refine G.seq ?_; refine G.region ?_; refine G.v (rv_move rfl) rfl ?_
            (first | refine G.v (rv_indexH rfl rfl (by first | exact Rd.stays (by assumption) | exact Rd.owned 0 rfl | exact Rd.owned 1 rfl | exact Rd.owned 2 rfl | exact Rd.owned 3 rfl) rfl (by assumption)) rfl ?_ | refine G.v (rv_index rfl rfl (by first | exact Rd.stays (by assumption) | exact Rd.owned 0 rfl | exact Rd.owned 1 rfl | exact Rd.owned 2 rfl | exact Rd.owned 3 rfl) rfl (by assumption)) rfl ?_)
            (first | refine G.v (rv_loadEW rfl (by first | exact Rd.stays (by assumption) | exact Rd.owned 0 rfl | exact Rd.owned 1 rfl | exact Rd.owned 2 rfl | exact Rd.owned 3 rfl) (by assumption) rfl) rfl ?_ | refine G.v (rv_loadEP rfl (by first | exact Rd.stays (by assumption) | exact Rd.owned 0 rfl | exact Rd.owned 1 rfl | exact Rd.owned 2 rfl | exact Rd.owned 3 rfl) (by assumption) (.one (.one (.one .nil)))) rfl ?_)
            refine G.op (og_alloc) rfl (fun bk4 _ => ?_); refine G.v (rv_assign rfl) rfl ?_
            (first | refine G.op0 (og_st0 rfl rfl rfl rfl rfl (by repeat (first | rfl | refine one_cons (by first | rfl | assumption) ?_)) (.zero (.cons (.cons (.cons .nil))))) (fun _ _ => ?_) | refine G.op0 (og_st1 rfl rfl rfl rfl rfl (by repeat (first | rfl | refine one_cons (by first | rfl | assumption) ?_)) (.zero (.cons (.cons (.cons .nil))))) (fun _ _ => ?_) | refine G.op0 (og_st2 rfl rfl rfl rfl rfl (by repeat (first | rfl | refine one_cons (by first | rfl | assumption) ?_)) (.zero (.cons (.cons (.cons .nil))))) (fun _ _ => ?_) | refine G.op0 (og_st3 rfl rfl rfl rfl rfl (by repeat (first | rfl | refine one_cons (by first | rfl | assumption) ?_)) (.zero (.cons (.cons (.cons .nil))))) (fun _ _ => ?_))
            refine G.done ?_; refine G.thenN ?_; refine G.seq ?_; refine G.region ?_
            (first | refine G.v (rv_field rfl) rfl ?_ | refine G.v (rv_fieldE rfl) rfl ?_)
            (first | refine G.v (rv_load1 0 rfl rfl rfl) rfl ?_ | refine G.v (rv_load1 1 rfl rfl rfl) rfl ?_ | refine G.v (rv_load1 2 rfl rfl rfl) rfl ?_ | refine G.v (rv_load1 3 rfl rfl rfl) rfl ?_)
            refine G.v (rv_move rfl) rfl ?_
            (first | refine G.v (rv_indexH rfl rfl (by first | exact Rd.stays (by assumption) | exact Rd.owned 0 rfl | exact Rd.owned 1 rfl | exact Rd.owned 2 rfl | exact Rd.owned 3 rfl) rfl (by assumption)) rfl ?_ | refine G.v (rv_index rfl rfl (by first | exact Rd.stays (by assumption) | exact Rd.owned 0 rfl | exact Rd.owned 1 rfl | exact Rd.owned 2 rfl | exact Rd.owned 3 rfl) rfl (by assumption)) rfl ?_)
            (first | refine G.v (rv_loadEW rfl (by first | exact Rd.stays (by assumption) | exact Rd.owned 0 rfl | exact Rd.owned 1 rfl | exact Rd.owned 2 rfl | exact Rd.owned 3 rfl) (by assumption) rfl) rfl ?_ | refine G.v (rv_loadEP rfl (by first | exact Rd.stays (by assumption) | exact Rd.owned 0 rfl | exact Rd.owned 1 rfl | exact Rd.owned 2 rfl | exact Rd.owned 3 rfl) (by assumption) (.one (.one (.one (.one .nil))))) rfl ?_)
            refine G.op (og_alloc) rfl (fun bk5 _ => ?_)
            (first | refine G.op0 (og_st0 rfl rfl rfl rfl rfl rfl (.zero (.cons (.cons (.cons (.cons .nil)))))) (fun _ _ => ?_) | refine G.op0 (og_st1 rfl rfl rfl rfl rfl rfl (.zero (.cons (.cons (.cons (.cons .nil)))))) (fun _ _ => ?_) | refine G.op0 (og_st2 rfl rfl rfl rfl rfl rfl (.zero (.cons (.cons (.cons (.cons .nil)))))) (fun _ _ => ?_) | refine G.op0 (og_st3 rfl rfl rfl rfl rfl rfl (.zero (.cons (.cons (.cons (.cons .nil)))))) (fun _ _ => ?_))
            refine G.done ?_; refine G.thenN ?_; refine G.seq ?_; refine G.region ?_
            (first | refine G.v (rv_field rfl) rfl ?_ | refine G.v (rv_fieldE rfl) rfl ?_)
            (first | refine G.v (rv_load1 0 rfl rfl rfl) rfl ?_ | refine G.v (rv_load1 1 rfl rfl rfl) rfl ?_ | refine G.v (rv_load1 2 rfl rfl rfl) rfl ?_ | refine G.v (rv_load1 3 rfl rfl rfl) rfl ?_)
            refine G.op (og_callV rfl rfl (fun w _ => in_any _ _ _ w)) rfl (fun _ _ => ?_); refine G.v (rv_not rfl) rfl ?_; refine G.v (rv_move rfl) rfl ?_
            all_goals (((with_reducible refine G.gP rfl rfl (fun hg => ?_) (fun hg => ?_)) <;> (try exact Bool.noConfusion hg) <;> (first | (refine G.gY rfl rfl ?_; (first | refine G.v (rv_field rfl) rfl ?_ | refine G.v (rv_fieldE rfl) rfl ?_)) | refine G.gN rfl rfl rfl ?_ | refine G.gU rfl rfl rfl ?_)))
            all_goals ((first | (refine G.gY rfl rfl ?_; (first | refine G.v (rv_load1 0 rfl rfl rfl) rfl ?_ | refine G.v (rv_load1 1 rfl rfl rfl) rfl ?_ | refine G.v (rv_load1 2 rfl rfl rfl) rfl ?_ | refine G.v (rv_load1 3 rfl rfl rfl) rfl ?_)) | refine G.gN rfl rfl rfl ?_ | refine G.gU rfl rfl rfl ?_))
            all_goals ((first | (refine G.gY rfl rfl ?_; refine G.op (og_callV rfl rfl (fun w _ => in_any _ _ _ w)) rfl (fun _ _ => ?_)) | refine G.gN rfl rfl rfl ?_ | refine G.gU rfl rfl rfl ?_))
            all_goals ((first | (refine G.gY rfl rfl ?_; refine G.v (rv_not rfl) rfl ?_) | refine G.gN rfl rfl rfl ?_ | refine G.gU rfl rfl rfl ?_))
            all_goals ((first | refine G.v (rv_pickT rfl rfl) rfl ?_ | refine G.v (rv_pickF rfl rfl) rfl ?_))
            all_goals (refine G.v (rv_move rfl) rfl ?_)
            all_goals (((with_reducible refine G.gP rfl rfl (fun hg => ?_) (fun hg => ?_)) <;> (try exact Bool.noConfusion hg) <;> (first | (refine G.gY rfl rfl ?_; (first | refine G.v (rv_field rfl) rfl ?_ | refine G.v (rv_fieldE rfl) rfl ?_)) | refine G.gN rfl rfl rfl ?_ | refine G.gU rfl rfl rfl ?_)))
            all_goals ((first | (refine G.gY rfl rfl ?_; (first | refine G.v (rv_load1 0 rfl rfl rfl) rfl ?_ | refine G.v (rv_load1 1 rfl rfl rfl) rfl ?_ | refine G.v (rv_load1 2 rfl rfl rfl) rfl ?_ | refine G.v (rv_load1 3 rfl rfl rfl) rfl ?_)) | refine G.gN rfl rfl rfl ?_ | refine G.gU rfl rfl rfl ?_))
            all_goals ((first | (refine G.gY rfl rfl ?_; refine G.op (og_callV rfl rfl (fun w hh => unitsRight_any w (Rd.stays (hs.at hb) _ hh))) rfl (fun _ _ => ?_)) | refine G.gN rfl rfl rfl ?_ | refine G.gU rfl rfl rfl ?_))
            all_goals ((first | (refine G.gY rfl rfl ?_; refine G.v (rv_not rfl) rfl ?_) | refine G.gN rfl rfl rfl ?_ | refine G.gU rfl rfl rfl ?_))
            all_goals ((first | refine G.v (rv_pickT rfl rfl) rfl ?_ | refine G.v (rv_pickF rfl rfl) rfl ?_))
            all_goals (refine G.v (rv_move rfl) rfl ?_)
            all_goals (((with_reducible refine G.gP rfl rfl (fun hg => ?_) (fun hg => ?_)) <;> (try exact Bool.noConfusion hg) <;> (first | (refine G.gY rfl rfl ?_; (first | refine G.v (rv_field rfl) rfl ?_ | refine G.v (rv_fieldE rfl) rfl ?_)) | refine G.gN rfl rfl rfl ?_ | refine G.gU rfl rfl rfl ?_)))
            all_goals ((first | (refine G.gY rfl rfl ?_; (first | refine G.v (rv_load1 0 rfl rfl rfl) rfl ?_ | refine G.v (rv_load1 1 rfl rfl rfl) rfl ?_ | refine G.v (rv_load1 2 rfl rfl rfl) rfl ?_ | refine G.v (rv_load1 3 rfl rfl rfl) rfl ?_)) | refine G.gN rfl rfl rfl ?_ | refine G.gU rfl rfl rfl ?_))
            all_goals ((first | (refine G.gY rfl rfl ?_; refine G.op (og_callV rfl rfl (fun w _ => isPlace_any _ w)) rfl (fun _ _ => ?_)) | refine G.gN rfl rfl rfl ?_ | refine G.gU rfl rfl rfl ?_))
            all_goals ((first | (refine G.gY rfl rfl ?_; refine G.v (rv_not rfl) rfl ?_) | refine G.gN rfl rfl rfl ?_ | refine G.gU rfl rfl rfl ?_))
            all_goals ((first | refine G.v (rv_pickT rfl rfl) rfl ?_ | refine G.v (rv_pickF rfl rfl) rfl ?_))
            all_goals (refine G.v (rv_move rfl) rfl ?_)
            all_goals (((with_reducible refine G.gP rfl rfl (fun hg => ?_) (fun hg => ?_)) <;> (try exact Bool.noConfusion hg) <;> (first | (refine G.gY rfl rfl ?_; (first | refine G.v (rv_field rfl) rfl ?_ | refine G.v (rv_fieldE rfl) rfl ?_)) | refine G.gN rfl rfl rfl ?_ | refine G.gU rfl rfl rfl ?_)))
            all_goals ((first | (refine G.gY rfl rfl ?_; (first | refine G.v (rv_load1 0 rfl rfl rfl) rfl ?_ | refine G.v (rv_load1 1 rfl rfl rfl) rfl ?_ | refine G.v (rv_load1 2 rfl rfl rfl) rfl ?_ | refine G.v (rv_load1 3 rfl rfl rfl) rfl ?_)) | refine G.gN rfl rfl rfl ?_ | refine G.gU rfl rfl rfl ?_))
            all_goals ((first | (refine G.gY rfl rfl ?_; refine G.op (og_callV rfl rfl (fun w _ => isPlace_any _ w)) rfl (fun _ _ => ?_)) | refine G.gN rfl rfl rfl ?_ | refine G.gU rfl rfl rfl ?_))
            all_goals ((first | (refine G.gY rfl rfl ?_; refine G.v (rv_not rfl) rfl ?_) | refine G.gN rfl rfl rfl ?_ | refine G.gU rfl rfl rfl ?_))
            all_goals ((first | refine G.v (rv_pickT rfl rfl) rfl ?_ | refine G.v (rv_pickF rfl rfl) rfl ?_))
            all_goals (refine G.v (rv_move rfl) rfl ?_)
            all_goals (((with_reducible refine G.gP rfl rfl (fun hg => ?_) (fun hg => ?_)) <;> (try exact Bool.noConfusion hg) <;> (first | (refine G.gY rfl rfl ?_; (first | refine G.v (rv_field rfl) rfl ?_ | refine G.v (rv_fieldE rfl) rfl ?_)) | refine G.gN rfl rfl rfl ?_ | refine G.gU rfl rfl rfl ?_)))
            all_goals ((first | (refine G.gY rfl rfl ?_; (first | refine G.v (rv_load1 0 rfl rfl rfl) rfl ?_ | refine G.v (rv_load1 1 rfl rfl rfl) rfl ?_ | refine G.v (rv_load1 2 rfl rfl rfl) rfl ?_ | refine G.v (rv_load1 3 rfl rfl rfl) rfl ?_)) | refine G.gN rfl rfl rfl ?_ | refine G.gU rfl rfl rfl ?_))
            all_goals ((first | (refine G.gY rfl rfl ?_; refine G.op (og_callV rfl rfl (fun w _ => isPlace_any _ w)) rfl (fun _ _ => ?_)) | refine G.gN rfl rfl rfl ?_ | refine G.gU rfl rfl rfl ?_))
            all_goals ((first | (refine G.gY rfl rfl ?_; refine G.v (rv_not rfl) rfl ?_) | refine G.gN rfl rfl rfl ?_ | refine G.gU rfl rfl rfl ?_))
            all_goals ((first | refine G.v (rv_pickT rfl rfl) rfl ?_ | refine G.v (rv_pickF rfl rfl) rfl ?_))
            all_goals (refine G.v (rv_move rfl) rfl ?_)
            all_goals (((with_reducible refine G.gP rfl rfl (fun hg => ?_) (fun hg => ?_)) <;> (try exact Bool.noConfusion hg) <;> (first | (refine G.gY rfl rfl ?_; (first | refine G.v (rv_field rfl) rfl ?_ | refine G.v (rv_fieldE rfl) rfl ?_)) | refine G.gN rfl rfl rfl ?_ | refine G.gU rfl rfl rfl ?_)))
            all_goals ((first | (refine G.gY rfl rfl ?_; (first | refine G.v (rv_load1 0 rfl rfl rfl) rfl ?_ | refine G.v (rv_load1 1 rfl rfl rfl) rfl ?_ | refine G.v (rv_load1 2 rfl rfl rfl) rfl ?_ | refine G.v (rv_load1 3 rfl rfl rfl) rfl ?_)) | refine G.gN rfl rfl rfl ?_ | refine G.gU rfl rfl rfl ?_))
            all_goals ((first | (refine G.gY rfl rfl ?_; refine G.op (og_callV rfl rfl (fun w _ => isPlace_any _ w)) rfl (fun _ _ => ?_)) | refine G.gN rfl rfl rfl ?_ | refine G.gU rfl rfl rfl ?_))
            all_goals ((first | (refine G.gY rfl rfl ?_; refine G.v (rv_not rfl) rfl ?_) | refine G.gN rfl rfl rfl ?_ | refine G.gU rfl rfl rfl ?_))
            all_goals ((first | refine G.v (rv_pickT rfl rfl) rfl ?_ | refine G.v (rv_pickF rfl rfl) rfl ?_))
            all_goals
             refine G.done ?_; refine G.thenN ?_; refine G.cond rfl (fun hc => ?_) (fun hc => ?_)
             · try exact Bool.noConfusion hc
               all_goals
                try replace hc := of_decide_eq_true hc
                try (exfalso; first | contradiction | omega)
                all_goals
                 refine G.seq ?_; refine G.region ?_; refine G.v (rv_assign rfl) rfl ?_; refine G.done ?_; refine G.thenN ?_; refine G.ret ?_; refine G.inR ?_; refine G.thenR ?_; refine G.thenR ?_; refine G.inR ?_; refine G.thenR ?_
                 first | exact G.retFV rfl rfl (congrArg Value.bool (planOk_yes ht hk hlt hlen (by omega))) | exact G.retFV rfl rfl (congrArg Value.bool (planOk_elt hlt (by rw [hpa, Bool.eq_false_iff]; (intro hh; simp_all; done)))) | exact G.retFV rfl rfl (congrArg Value.bool (planOk_many (by omega))) | exact G.retFV rfl rfl (congrArg Value.bool (planOk_len (by have := of_decide_eq_true hg; omega)))
             · try exact Bool.noConfusion hc
               all_goals
                try replace hc := of_decide_eq_false hc
                try (exfalso; first | contradiction | omega)
                all_goals
                 refine G.skip ?_; refine G.inN ?_; refine G.thenN ?_; refine G.region ?_
                 (first | refine G.v (rv_incr rfl rfl (by omega)) rfl ?_ | refine G.v (rv_addB rfl rfl (by omega) (by omega)) rfl ?_)
                 refine G.v (rv_move rfl) rfl ?_; refine G.done ?_
                 first | refine G.backK (k + 1) 0 rfl (.cons rfl (.cons rfl (.cons rfl (.nil)))) ?_ ?_ ?_ | refine G.backK (k + 1) 1 rfl (.cons rfl (.cons rfl (.cons rfl (.nil)))) ?_ ?_ ?_ | refine G.backK (k + 1) 2 rfl (.cons rfl (.cons rfl (.cons rfl (.nil)))) ?_ ?_ ?_ | refine G.backK (k + 1) 3 rfl (.cons rfl (.cons rfl (.cons rfl (.nil)))) ?_ ?_ ?_
                 · exact ⟨rfl, trivial⟩
                 · exact ⟨hlt, range_next ht (by rw [hpa]; (simp_all; done))⟩
                 · omega
        · try exact Bool.noConfusion hc
          all_goals
           try replace hc := of_decide_eq_false hc
           try (exfalso; first | contradiction | omega)
           all_goals
            refine G.exit ?_; refine G.thenX ?_; refine G.thenX ?_; refine G.inX ?_; refine G.thenN ?_; refine G.seq ?_; refine G.region ?_; refine G.v (rv_assign rfl) rfl ?_; refine G.done ?_; refine G.thenN ?_; refine G.ret ?_
            first | exact G.retFV rfl rfl (congrArg Value.bool (planOk_yes ht hk hlt hlen (by omega))) | exact G.retFV rfl rfl (congrArg Value.bool (planOk_elt hlt (by rw [hpa, Bool.eq_false_iff]; (intro hh; simp_all; done)))) | exact G.retFV rfl rfl (congrArg Value.bool (planOk_many (by omega))) | exact G.retFV rfl rfl (congrArg Value.bool (planOk_len (by have := of_decide_eq_true hg; omega)))

theorem specPlanOk_any {cv sv : Value} {cs : List (CartonM × Value)} {ss : List SpotM} (w : World) (h : Rd w cv 3 (cs.map CartonM.cells)) (hs : Subs w CartonM.l cs) (h3 : Rd w sv 4 (ss.map SpotM.cells)) : FnV Tryd.prog 23 [.agg [cv, sv].toArray] w (.bool (planOkM (cs.map Prod.fst) ss)) := by
  have hle := h.le_map
  have hln : (cs.map CartonM.cells).length = cs.length := by simp
  have hln2 : (ss.map SpotM.cells).length = ss.length := by simp
  refine FnV.of (n := 61) Tryd.func23 rfl rfl ?_; refine G.seq ?_; refine G.region ?_; refine G.op (og_box rfl rfl) rfl (fun bk1 _ => ?_); refine G.v (rv_assign rfl) rfl ?_; refine G.done ?_; refine G.thenN ?_; refine G.seq ?_; refine G.seq ?_; refine G.region ?_
  (first | refine G.v (rv_field rfl) rfl ?_ | refine G.v (rv_fieldE rfl) rfl ?_)
  (first | refine G.v (rv_load1 0 rfl rfl rfl) rfl ?_ | refine G.v (rv_load1 1 rfl rfl rfl) rfl ?_ | refine G.v (rv_load1 2 rfl rfl rfl) rfl ?_ | refine G.v (rv_load1 3 rfl rfl rfl) rfl ?_)
  refine G.v (rv_len rfl (by first | exact Rd.stays (by assumption) | exact Rd.owned 0 rfl | exact Rd.owned 1 rfl | exact Rd.owned 2 rfl | exact Rd.owned 3 rfl)) rfl ?_
  (first | refine G.v (rv_field rfl) rfl ?_ | refine G.v (rv_fieldE rfl) rfl ?_)
  (first | refine G.v (rv_load1 0 rfl rfl rfl) rfl ?_ | refine G.v (rv_load1 1 rfl rfl rfl) rfl ?_ | refine G.v (rv_load1 2 rfl rfl rfl) rfl ?_ | refine G.v (rv_load1 3 rfl rfl rfl) rfl ?_)
  refine G.v (rv_len rfl (by first | exact Rd.stays (by assumption) | exact Rd.owned 0 rfl | exact Rd.owned 1 rfl | exact Rd.owned 2 rfl | exact Rd.owned 3 rfl)) rfl ?_; refine G.v (rv_neq rfl rfl) rfl ?_; refine G.v (rv_move rfl) rfl ?_
  all_goals (((with_reducible refine G.gP rfl rfl (fun hg => ?_) (fun hg => ?_)) <;> (try exact Bool.noConfusion hg) <;> (first | (refine G.gY rfl rfl ?_; (first | refine G.v (rv_field rfl) rfl ?_ | refine G.v (rv_fieldE rfl) rfl ?_)) | refine G.gN rfl rfl rfl ?_ | refine G.gU rfl rfl rfl ?_)))
  all_goals ((first | (refine G.gY rfl rfl ?_; (first | refine G.v (rv_load1 0 rfl rfl rfl) rfl ?_ | refine G.v (rv_load1 1 rfl rfl rfl) rfl ?_ | refine G.v (rv_load1 2 rfl rfl rfl) rfl ?_ | refine G.v (rv_load1 3 rfl rfl rfl) rfl ?_)) | refine G.gN rfl rfl rfl ?_ | refine G.gU rfl rfl rfl ?_))
  all_goals ((first | (refine G.gY rfl rfl ?_; refine G.v (rv_len rfl (by first | exact Rd.stays (by assumption) | exact Rd.owned 0 rfl | exact Rd.owned 1 rfl | exact Rd.owned 2 rfl | exact Rd.owned 3 rfl)) rfl ?_) | refine G.gN rfl rfl rfl ?_ | refine G.gU rfl rfl rfl ?_))
  all_goals ((first | (refine G.gY rfl rfl ?_; refine G.v (rv_gtr rfl rfl) rfl ?_) | refine G.gN rfl rfl rfl ?_ | refine G.gU rfl rfl rfl ?_))
  all_goals ((first | refine G.v (rv_pickT rfl rfl) rfl ?_ | refine G.v (rv_pickF rfl rfl) rfl ?_))
  all_goals
   refine G.done ?_; refine G.thenN ?_; refine G.cond rfl (fun hc => ?_) (fun hc => ?_)
   · try exact Bool.noConfusion hc
     all_goals
      try replace hc := of_decide_eq_true hc
      try (exfalso; first | contradiction | omega)
      all_goals
       refine G.seq ?_; refine G.region ?_; refine G.v (rv_assign rfl) rfl ?_; refine G.done ?_; refine G.thenN ?_; refine G.ret ?_; refine G.thenR ?_
       first | exact G.retFV rfl rfl (congrArg Value.bool (planOk_yes ht hk hlt hlen (by omega))) | exact G.retFV rfl rfl (congrArg Value.bool (planOk_elt hlt (by rw [hpa, Bool.eq_false_iff]; (intro hh; simp_all; done)))) | exact G.retFV rfl rfl (congrArg Value.bool (planOk_many (by omega))) | exact G.retFV rfl rfl (congrArg Value.bool (planOk_len (by have := of_decide_eq_true hg; omega)))
   · try exact Bool.noConfusion hc
     all_goals
      try replace hc := of_decide_eq_false hc
      try (exfalso; first | contradiction | omega)
      all_goals
       refine G.skip ?_; refine G.thenN ?_; refine G.seq ?_; refine G.seq ?_; refine G.region ?_; refine G.v (rv_assign rfl) rfl ?_; refine G.done ?_; refine G.thenN ?_; refine G.block ?_
       -- loop 0: turned [3], kept [1]
       have hlen : ss.length = cs.length := by have := of_decide_eq_false hg; omega
       refine G.loopK (ι := Nat) (ks := [1]) (fun k => [(3, .int .i64 k)]) (fun _ => []) (fun k => k ≤ cs.length ∧ (List.range k).all (planAt (cs.map Prod.fst) ss) = true) (fun k => cs.length - k) 0 (.cons rfl (.nil)) rfl ?_ ?_ ?_
       · exact ⟨Nat.zero_le _, rfl⟩
       · exact ⟨rfl, trivial⟩
       rintro k ⟨hk, ht⟩
       by_cases hlt : k < cs.length
       case' pos => (obtain ⟨b, hb⟩ := get_of_lt hlt; obtain ⟨s, hb2⟩ := get_of_lt (l := ss) (k := k) (by omega); have he := get_map hb CartonM.cells; have he2 := get_map hb2 SpotM.cells; have hov : b.2.oneCell' = true := (h.good _ (List.mem_of_getElem? he)).2 b.2 (by simp [CartonM.cells]); have hpa := planAt_eq hb hb2)
       all_goals
        refine G.seq ?_; refine G.seq ?_; refine G.region ?_; refine G.v (rv_move rfl) rfl ?_
        (first | refine G.v (rv_field rfl) rfl ?_ | refine G.v (rv_fieldE rfl) rfl ?_)
        (first | refine G.v (rv_load1 0 rfl rfl rfl) rfl ?_ | refine G.v (rv_load1 1 rfl rfl rfl) rfl ?_ | refine G.v (rv_load1 2 rfl rfl rfl) rfl ?_ | refine G.v (rv_load1 3 rfl rfl rfl) rfl ?_)
        refine G.v (rv_len rfl (by first | exact Rd.stays (by assumption) | exact Rd.owned 0 rfl | exact Rd.owned 1 rfl | exact Rd.owned 2 rfl | exact Rd.owned 3 rfl)) rfl ?_; refine G.v (rv_lss rfl rfl) rfl ?_; refine G.done ?_; refine G.thenN ?_; refine G.cond rfl (fun hc => ?_) (fun hc => ?_)
        · try exact Bool.noConfusion hc
          all_goals
           try replace hc := of_decide_eq_true hc
           try (exfalso; first | contradiction | omega)
           all_goals
            refine G.skip ?_; refine G.thenN ?_; refine G.seq ?_; refine G.block ?_; refine G.seq ?_; refine G.region ?_
            (first | refine G.v (rv_field rfl) rfl ?_ | refine G.v (rv_fieldE rfl) rfl ?_)
            (first | refine G.v (rv_load1 0 rfl rfl rfl) rfl ?_ | refine G.v (rv_load1 1 rfl rfl rfl) rfl ?_ | refine G.v (rv_load1 2 rfl rfl rfl) rfl ?_ | refine G.v (rv_load1 3 rfl rfl rfl) rfl ?_)
            refine G.v (rv_move rfl) rfl ?_
            (first | refine G.v (rv_indexH rfl rfl (by first | exact Rd.stays (by assumption) | exact Rd.owned 0 rfl | exact Rd.owned 1 rfl | exact Rd.owned 2 rfl | exact Rd.owned 3 rfl) rfl (by assumption)) rfl ?_ | refine G.v (rv_index rfl rfl (by first | exact Rd.stays (by assumption) | exact Rd.owned 0 rfl | exact Rd.owned 1 rfl | exact Rd.owned 2 rfl | exact Rd.owned 3 rfl) rfl (by assumption)) rfl ?_)
            (first | refine G.v (rv_loadEW rfl (by first | exact Rd.stays (by assumption) | exact Rd.owned 0 rfl | exact Rd.owned 1 rfl | exact Rd.owned 2 rfl | exact Rd.owned 3 rfl) (by assumption) rfl) rfl ?_ | refine G.v (rv_loadEP rfl (by first | exact Rd.stays (by assumption) | exact Rd.owned 0 rfl | exact Rd.owned 1 rfl | exact Rd.owned 2 rfl | exact Rd.owned 3 rfl) (by assumption) (.one (.one (.one (.one .nil))))) rfl ?_)
            refine G.op (og_alloc) rfl (fun bk4 _ => ?_)
            (first | refine G.op0 (og_st0 rfl rfl rfl rfl rfl rfl (.zero (.cons (.cons (.cons (.cons .nil)))))) (fun _ _ => ?_) | refine G.op0 (og_st1 rfl rfl rfl rfl rfl rfl (.zero (.cons (.cons (.cons (.cons .nil)))))) (fun _ _ => ?_) | refine G.op0 (og_st2 rfl rfl rfl rfl rfl rfl (.zero (.cons (.cons (.cons (.cons .nil)))))) (fun _ _ => ?_) | refine G.op0 (og_st3 rfl rfl rfl rfl rfl rfl (.zero (.cons (.cons (.cons (.cons .nil)))))) (fun _ _ => ?_))
            refine G.done ?_; refine G.thenN ?_; refine G.seq ?_; refine G.region ?_
            (first | refine G.v (rv_field rfl) rfl ?_ | refine G.v (rv_fieldE rfl) rfl ?_)
            (first | refine G.v (rv_load1 0 rfl rfl rfl) rfl ?_ | refine G.v (rv_load1 1 rfl rfl rfl) rfl ?_ | refine G.v (rv_load1 2 rfl rfl rfl) rfl ?_ | refine G.v (rv_load1 3 rfl rfl rfl) rfl ?_)
            refine G.v (rv_move rfl) rfl ?_
            (first | refine G.v (rv_indexH rfl rfl (by first | exact Rd.stays (by assumption) | exact Rd.owned 0 rfl | exact Rd.owned 1 rfl | exact Rd.owned 2 rfl | exact Rd.owned 3 rfl) rfl (by assumption)) rfl ?_ | refine G.v (rv_index rfl rfl (by first | exact Rd.stays (by assumption) | exact Rd.owned 0 rfl | exact Rd.owned 1 rfl | exact Rd.owned 2 rfl | exact Rd.owned 3 rfl) rfl (by assumption)) rfl ?_)
            (first | refine G.v (rv_loadEW rfl (by first | exact Rd.stays (by assumption) | exact Rd.owned 0 rfl | exact Rd.owned 1 rfl | exact Rd.owned 2 rfl | exact Rd.owned 3 rfl) (by assumption) rfl) rfl ?_ | refine G.v (rv_loadEP rfl (by first | exact Rd.stays (by assumption) | exact Rd.owned 0 rfl | exact Rd.owned 1 rfl | exact Rd.owned 2 rfl | exact Rd.owned 3 rfl) (by assumption) (.one (.one (.one .nil)))) rfl ?_)
            refine G.op (og_callV rfl rfl (fun w hh => l13Carton_any _ w (Rd.stays (hs.at hb) _ hh))) rfl (fun _ _ => ?_); refine G.v (rv_not rfl) rfl ?_; refine G.v (rv_move rfl) rfl ?_
            all_goals (((with_reducible refine G.gP rfl rfl (fun hg => ?_) (fun hg => ?_)) <;> (try exact Bool.noConfusion hg) <;> (first | (refine G.gY rfl rfl ?_; (first | refine G.v (rv_field rfl) rfl ?_ | refine G.v (rv_fieldE rfl) rfl ?_)) | refine G.gN rfl rfl rfl ?_ | refine G.gU rfl rfl rfl ?_)))
            all_goals ((first | (refine G.gY rfl rfl ?_; (first | refine G.v (rv_load1 0 rfl rfl rfl) rfl ?_ | refine G.v (rv_load1 1 rfl rfl rfl) rfl ?_ | refine G.v (rv_load1 2 rfl rfl rfl) rfl ?_ | refine G.v (rv_load1 3 rfl rfl rfl) rfl ?_)) | refine G.gN rfl rfl rfl ?_ | refine G.gU rfl rfl rfl ?_))
            all_goals ((first | (refine G.gY rfl rfl ?_; refine G.op (og_callV rfl rfl (fun w _ => l1In_any _ _ _ w)) rfl (fun _ _ => ?_)) | refine G.gN rfl rfl rfl ?_ | refine G.gU rfl rfl rfl ?_))
            all_goals ((first | (refine G.gY rfl rfl ?_; refine G.v (rv_not rfl) rfl ?_) | refine G.gN rfl rfl rfl ?_ | refine G.gU rfl rfl rfl ?_))
            all_goals ((first | refine G.v (rv_pickT rfl rfl) rfl ?_ | refine G.v (rv_pickF rfl rfl) rfl ?_))
            all_goals (refine G.v (rv_move rfl) rfl ?_)
            all_goals (((with_reducible refine G.gP rfl rfl (fun hg => ?_) (fun hg => ?_)) <;> (try exact Bool.noConfusion hg) <;> (first | (refine G.gY rfl rfl ?_; (first | refine G.v (rv_field rfl) rfl ?_ | refine G.v (rv_fieldE rfl) rfl ?_)) | refine G.gN rfl rfl rfl ?_ | refine G.gU rfl rfl rfl ?_)))
            all_goals ((first | (refine G.gY rfl rfl ?_; (first | refine G.v (rv_load1 0 rfl rfl rfl) rfl ?_ | refine G.v (rv_load1 1 rfl rfl rfl) rfl ?_ | refine G.v (rv_load1 2 rfl rfl rfl) rfl ?_ | refine G.v (rv_load1 3 rfl rfl rfl) rfl ?_)) | refine G.gN rfl rfl rfl ?_ | refine G.gU rfl rfl rfl ?_))
            all_goals ((first | (refine G.gY rfl rfl ?_; refine G.op (og_callV rfl rfl (fun w _ => l1In_any _ _ _ w)) rfl (fun _ _ => ?_)) | refine G.gN rfl rfl rfl ?_ | refine G.gU rfl rfl rfl ?_))
            all_goals ((first | (refine G.gY rfl rfl ?_; refine G.v (rv_not rfl) rfl ?_) | refine G.gN rfl rfl rfl ?_ | refine G.gU rfl rfl rfl ?_))
            all_goals ((first | refine G.v (rv_pickT rfl rfl) rfl ?_ | refine G.v (rv_pickF rfl rfl) rfl ?_))
            all_goals (refine G.v (rv_move rfl) rfl ?_)
            all_goals (((with_reducible refine G.gP rfl rfl (fun hg => ?_) (fun hg => ?_)) <;> (try exact Bool.noConfusion hg) <;> (first | (refine G.gY rfl rfl ?_; (first | refine G.v (rv_field rfl) rfl ?_ | refine G.v (rv_fieldE rfl) rfl ?_)) | refine G.gN rfl rfl rfl ?_ | refine G.gU rfl rfl rfl ?_)))
            all_goals ((first | (refine G.gY rfl rfl ?_; (first | refine G.v (rv_load1 0 rfl rfl rfl) rfl ?_ | refine G.v (rv_load1 1 rfl rfl rfl) rfl ?_ | refine G.v (rv_load1 2 rfl rfl rfl) rfl ?_ | refine G.v (rv_load1 3 rfl rfl rfl) rfl ?_)) | refine G.gN rfl rfl rfl ?_ | refine G.gU rfl rfl rfl ?_))
            all_goals ((first | (refine G.gY rfl rfl ?_; refine G.op (og_callV rfl rfl (fun w _ => l1In_any _ _ _ w)) rfl (fun _ _ => ?_)) | refine G.gN rfl rfl rfl ?_ | refine G.gU rfl rfl rfl ?_))
            all_goals ((first | (refine G.gY rfl rfl ?_; refine G.v (rv_not rfl) rfl ?_) | refine G.gN rfl rfl rfl ?_ | refine G.gU rfl rfl rfl ?_))
            all_goals ((first | refine G.v (rv_pickT rfl rfl) rfl ?_ | refine G.v (rv_pickF rfl rfl) rfl ?_))
            all_goals (refine G.v (rv_move rfl) rfl ?_)
            all_goals (((with_reducible refine G.gP rfl rfl (fun hg => ?_) (fun hg => ?_)) <;> (try exact Bool.noConfusion hg) <;> (first | (refine G.gY rfl rfl ?_; (first | refine G.v (rv_field rfl) rfl ?_ | refine G.v (rv_fieldE rfl) rfl ?_)) | refine G.gN rfl rfl rfl ?_ | refine G.gU rfl rfl rfl ?_)))
            all_goals ((first | (refine G.gY rfl rfl ?_; (first | refine G.v (rv_load1 0 rfl rfl rfl) rfl ?_ | refine G.v (rv_load1 1 rfl rfl rfl) rfl ?_ | refine G.v (rv_load1 2 rfl rfl rfl) rfl ?_ | refine G.v (rv_load1 3 rfl rfl rfl) rfl ?_)) | refine G.gN rfl rfl rfl ?_ | refine G.gU rfl rfl rfl ?_))
            all_goals ((first | (refine G.gY rfl rfl ?_; refine G.op (og_callV rfl rfl (fun w _ => l1In_any _ _ _ w)) rfl (fun _ _ => ?_)) | refine G.gN rfl rfl rfl ?_ | refine G.gU rfl rfl rfl ?_))
            all_goals ((first | (refine G.gY rfl rfl ?_; refine G.v (rv_not rfl) rfl ?_) | refine G.gN rfl rfl rfl ?_ | refine G.gU rfl rfl rfl ?_))
            all_goals ((first | refine G.v (rv_pickT rfl rfl) rfl ?_ | refine G.v (rv_pickF rfl rfl) rfl ?_))
            all_goals
             refine G.done ?_; refine G.thenN ?_; refine G.cond rfl (fun hc => ?_) (fun hc => ?_)
             · try exact Bool.noConfusion hc
               all_goals
                try replace hc := of_decide_eq_true hc
                try (exfalso; first | contradiction | omega)
                all_goals
                 refine G.seq ?_; refine G.region ?_; refine G.v (rv_assign rfl) rfl ?_; refine G.done ?_; refine G.thenN ?_; refine G.ret ?_; refine G.inR ?_; refine G.thenR ?_; refine G.thenR ?_; refine G.inR ?_; refine G.thenR ?_
                 first | exact G.retFV rfl rfl (congrArg Value.bool (planOk_yes ht hk hlt hlen (by omega))) | exact G.retFV rfl rfl (congrArg Value.bool (planOk_elt hlt (by rw [hpa, Bool.eq_false_iff]; (intro hh; simp_all; done)))) | exact G.retFV rfl rfl (congrArg Value.bool (planOk_many (by omega))) | exact G.retFV rfl rfl (congrArg Value.bool (planOk_len (by have := of_decide_eq_true hg; omega)))
             · try exact Bool.noConfusion hc
               all_goals
                try replace hc := of_decide_eq_false hc
                try (exfalso; first | contradiction | omega)
                all_goals
                 refine G.skip ?_; refine G.inN ?_; refine G.thenN ?_; refine G.region ?_; refine G.v (rv_move rfl) rfl ?_
                 (first | refine G.v (rv_incr rfl rfl (by omega)) rfl ?_ | refine G.v (rv_addB rfl rfl (by omega) (by omega)) rfl ?_)
                 refine G.v (rv_assign rfl) rfl ?_; refine G.done ?_
                 first | refine G.backK (k + 1) 0 rfl (.cons rfl (.nil)) ?_ ?_ ?_ | refine G.backK (k + 1) 1 rfl (.cons rfl (.nil)) ?_ ?_ ?_ | refine G.backK (k + 1) 2 rfl (.cons rfl (.nil)) ?_ ?_ ?_ | refine G.backK (k + 1) 3 rfl (.cons rfl (.nil)) ?_ ?_ ?_
                 · exact ⟨rfl, trivial⟩
                 · exact ⟨hlt, range_next ht (by rw [hpa]; (simp_all; done))⟩
                 · omega
        · try exact Bool.noConfusion hc
          all_goals
           try replace hc := of_decide_eq_false hc
           try (exfalso; first | contradiction | omega)
           all_goals
            refine G.exit ?_; refine G.thenX ?_; refine G.thenX ?_; refine G.inX ?_; refine G.thenN ?_; refine G.seq ?_; refine G.region ?_; refine G.v (rv_assign rfl) rfl ?_; refine G.done ?_; refine G.thenN ?_; refine G.ret ?_
            first | exact G.retFV rfl rfl (congrArg Value.bool (planOk_yes ht hk hlt hlen (by omega))) | exact G.retFV rfl rfl (congrArg Value.bool (planOk_elt hlt (by rw [hpa, Bool.eq_false_iff]; (intro hh; simp_all; done)))) | exact G.retFV rfl rfl (congrArg Value.bool (planOk_many (by omega))) | exact G.retFV rfl rfl (congrArg Value.bool (planOk_len (by have := of_decide_eq_true hg; omega)))

theorem szPlan_any {cv sv : Value} {cs : List (CartonM × Value)} {ss : List SpotM} (left : Int) (w : World) (h : Rd w cv 3 (cs.map CartonM.cells)) (hs : Subs w CartonM.l cs) (h3 : Rd w sv 4 (ss.map SpotM.cells)) (h0 : 0 ≤ left) (h1 : left ≤ 1048576) :
    FnV Tryd.prog 6 [.agg [cv, sv].toArray, .int .i64 left] w (.int .i64 (szM (tot CartonM.l cs + ss.length) left)) := by
  refine FnV.of (n := 18) Tryd.func6 rfl rfl ?_; refine G.seq ?_; refine G.region ?_; refine G.op (og_box rfl rfl) rfl (fun bk2 _ => ?_); refine G.v (rv_assign rfl) rfl ?_; refine G.done ?_; refine G.thenN ?_; refine G.seq ?_; refine G.region ?_
  (first | refine G.v (rv_field rfl) rfl ?_ | refine G.v (rv_fieldE rfl) rfl ?_)
  refine G.v (rv_load1 0 rfl rfl rfl) rfl ?_; refine G.v (rv_move rfl) rfl ?_; refine G.op (og_callV rfl rfl (fun w hh => szCartonS_any _ w (by first | exact Rd.stays (by assumption) _ hh | exact Rd.owned 0 rfl _ hh | exact Rd.owned 1 rfl _ hh | exact Rd.owned 2 rfl _ hh | exact Rd.owned 3 rfl _ hh | exact Rd.owned 4 rfl _ hh | exact Rd.owned 5 rfl _ hh | exact Rd.owned 6 rfl _ hh | exact Rd.owned 7 rfl _ hh | exact Rd.owned 8 rfl _ hh | exact Rd.owned 9 rfl _ hh | exact Rd.owned 10 rfl _ hh | exact Rd.owned 11 rfl _ hh | exact Rd.owned 12 rfl _ hh | exact Rd.owned 13 rfl _ hh | exact Rd.owned 14 rfl _ hh | exact Rd.owned 15 rfl _ hh) (by first | exact Subs.stays (by assumption) _ hh | exact Subs.owned 0 rfl _ hh | exact Subs.owned 1 rfl _ hh | exact Subs.owned 2 rfl _ hh | exact Subs.owned 3 rfl _ hh | exact Subs.owned 4 rfl _ hh | exact Subs.owned 5 rfl _ hh | exact Subs.owned 6 rfl _ hh | exact Subs.owned 7 rfl _ hh | exact Subs.owned 8 rfl _ hh | exact Subs.owned 9 rfl _ hh | exact Subs.owned 10 rfl _ hh | exact Subs.owned 11 rfl _ hh | exact Subs.owned 12 rfl _ hh | exact Subs.owned 13 rfl _ hh | exact Subs.owned 14 rfl _ hh | exact Subs.owned 15 rfl _ hh) (by (try simp only [szM] at *); omega) (by (try simp only [szM] at *); omega))) rfl (fun _ _ => ?_); refine G.v (rv_assign rfl) rfl ?_; refine G.done ?_; refine G.thenN ?_; refine G.seq ?_; refine G.seq ?_; refine G.region ?_; refine G.v (rv_move rfl) rfl ?_; refine G.v (rv_lss rfl rfl) rfl ?_; refine G.done ?_
  refine G.thenN ?_; refine G.cond rfl (fun hc => ?_) (fun hc => ?_)
  · try exact Bool.noConfusion hc
    all_goals
     try replace hc := of_decide_eq_true hc
     try (exfalso; first | contradiction | omega)
     all_goals
      refine G.seq ?_; refine G.region ?_; refine G.v (rv_assign rfl) rfl ?_; refine G.done ?_; refine G.thenN ?_; refine G.ret ?_; refine G.thenR ?_
      exact G.retFV rfl rfl (congrArg (Value.int .i64) (by simp only [szM] at * <;> omega))
  · try exact Bool.noConfusion hc
    all_goals
     try replace hc := of_decide_eq_false hc
     try (exfalso; first | contradiction | omega)
     all_goals
      refine G.skip ?_; refine G.thenN ?_; refine G.seq ?_; refine G.region ?_
      (first | refine G.v (rv_field rfl) rfl ?_ | refine G.v (rv_fieldE rfl) rfl ?_)
      refine G.v (rv_load1 0 rfl rfl rfl) rfl ?_; refine G.v (rv_move rfl) rfl ?_; refine G.op (og_callV rfl rfl (fun w hh => szSpotS_any _ w (by first | exact Rd.stays (by assumption) _ hh | exact Rd.owned 0 rfl _ hh | exact Rd.owned 1 rfl _ hh | exact Rd.owned 2 rfl _ hh | exact Rd.owned 3 rfl _ hh | exact Rd.owned 4 rfl _ hh | exact Rd.owned 5 rfl _ hh | exact Rd.owned 6 rfl _ hh | exact Rd.owned 7 rfl _ hh | exact Rd.owned 8 rfl _ hh | exact Rd.owned 9 rfl _ hh | exact Rd.owned 10 rfl _ hh | exact Rd.owned 11 rfl _ hh | exact Rd.owned 12 rfl _ hh | exact Rd.owned 13 rfl _ hh | exact Rd.owned 14 rfl _ hh | exact Rd.owned 15 rfl _ hh) (by (try simp only [szM] at *); omega) (by (try simp only [szM] at *); omega))) rfl (fun _ _ => ?_); refine G.v (rv_assign rfl) rfl ?_; refine G.done ?_; refine G.thenN ?_; refine G.seq ?_; refine G.seq ?_; refine G.region ?_; refine G.v (rv_move rfl) rfl ?_; refine G.v (rv_lss rfl rfl) rfl ?_; refine G.done ?_; refine G.thenN ?_; refine G.cond rfl (fun hc => ?_) (fun hc => ?_)
      · try exact Bool.noConfusion hc
        all_goals
         try replace hc := of_decide_eq_true hc
         try (exfalso; first | contradiction | omega)
         all_goals
          refine G.seq ?_; refine G.region ?_; refine G.v (rv_assign rfl) rfl ?_; refine G.done ?_; refine G.thenN ?_; refine G.ret ?_; refine G.thenR ?_
          exact G.retFV rfl rfl (congrArg (Value.int .i64) (by simp only [szM] at * <;> omega))
      · try exact Bool.noConfusion hc
        all_goals
         try replace hc := of_decide_eq_false hc
         try (exfalso; first | contradiction | omega)
         all_goals
          refine G.skip ?_; refine G.thenN ?_; refine G.seq ?_; refine G.region ?_; refine G.v (rv_move rfl) rfl ?_; refine G.v (rv_assign rfl) rfl ?_; refine G.done ?_; refine G.thenN ?_; refine G.ret ?_
          exact G.retFV rfl rfl (congrArg (Value.int .i64) (by simp only [szM] at * <;> omega))
theorem toPlan_any {cv sv : Value} {cs : List (CartonM × Value)} {ss : List SpotM} (w : World) (h : Rd w cv 3 (cs.map CartonM.cells)) (hs : Subs w CartonM.l cs) (h3 : Rd w sv 4 (ss.map SpotM.cells)) (ht : tot CartonM.l cs ≤ 1048576) (ht2 : ss.length ≤ 1048576) :
    Fn Tryd.prog 8 [.agg [cv, sv].toArray] w (fun x : (Value × List (CartonM × Value)) × Value => x.1.1.oneCell' = true ∧ x.2.oneCell' = true ∧ x.1.2.map Prod.fst = cs.map Prod.fst) (fun x => .agg [x.1.1, x.2].toArray)
      (fun x => [.row x.2 39 4 (ss.map SpotM.cells), .grp 3 1 (x.1.2.map (sub CartonM.l)), .row x.1.1 37 3 (x.1.2.map CartonM.cells)]) := by
  refine Fn.of (n := 13) Tryd.func8 rfl rfl ?_; refine G.seq ?_; refine G.region ?_; refine G.op (og_box rfl rfl) rfl (fun bk1 _ => ?_); refine G.op (og_alloc) rfl (fun bk2 _ => ?_); refine G.done ?_; refine G.thenN ?_; refine G.seq ?_; refine G.region ?_; refine G.op (og_alloc) rfl (fun bk3 _ => ?_); refine G.done ?_; refine G.thenN ?_; refine G.seq ?_; refine G.region ?_
  (first | refine G.v (rv_field rfl) rfl ?_ | refine G.v (rv_fieldE rfl) rfl ?_)
  (first | refine G.v (rv_load1 0 rfl rfl rfl) rfl ?_ | refine G.v (rv_load1 1 rfl rfl rfl) rfl ?_ | refine G.v (rv_load1 2 rfl rfl rfl) rfl ?_ | refine G.v (rv_load1 3 rfl rfl rfl) rfl ?_ | refine G.v (rv_load1 4 rfl rfl rfl) rfl ?_ | refine G.v (rv_load1 5 rfl rfl rfl) rfl ?_)
  (first | (refine G.op (og_callF1 rfl rfl (fun w hh => toCartonS_any w (Rd.stays h _ hh) (Subs.stays hs _ hh) ht)) rfl ?_; rintro ⟨cv2, cs2⟩ ⟨hov, hvl⟩; try dsimp only) | (refine G.op (og_callF2 rfl rfl (fun w hh => toCartonS_any w (Rd.stays h _ hh) (Subs.stays hs _ hh) ht)) rfl ?_; rintro ⟨cv2, cs2⟩ ⟨hov, hvl⟩; try dsimp only) | (refine G.op (og_callF3 rfl rfl (fun w hh => toCartonS_any w (Rd.stays h _ hh) (Subs.stays hs _ hh) ht)) rfl ?_; rintro ⟨cv2, cs2⟩ ⟨hov, hvl⟩; try dsimp only) | (refine G.op (og_callF0 rfl rfl (fun w hh => toCartonS_any w (Rd.stays h _ hh) (Subs.stays hs _ hh) ht)) rfl ?_; rintro ⟨cv2, cs2⟩ ⟨hov, hvl⟩; try dsimp only) | (refine G.op (og_callF rfl rfl (fun w hh => toCartonS_any w (Rd.stays h _ hh) (Subs.stays hs _ hh) ht)) rfl ?_; rintro ⟨cv2, cs2⟩ ⟨hov, hvl⟩; try dsimp only))
  (first | refine G.v (rv_field rfl) rfl ?_ | refine G.v (rv_fieldE rfl) rfl ?_)
  (first | refine G.op0 (og_st0 rfl rfl rfl (cells_one (by first | rfl | assumption)) rfl (by repeat (first | rfl | refine one_cons (by first | rfl | assumption) ?_)) (.zero (.cons .nil))) (fun _ _ => ?_) | refine G.op0 (og_st1 rfl rfl rfl (cells_one (by first | rfl | assumption)) rfl (by repeat (first | rfl | refine one_cons (by first | rfl | assumption) ?_)) (.zero (.cons .nil))) (fun _ _ => ?_) | refine G.op0 (og_st2 rfl rfl rfl (cells_one (by first | rfl | assumption)) rfl (by repeat (first | rfl | refine one_cons (by first | rfl | assumption) ?_)) (.zero (.cons .nil))) (fun _ _ => ?_) | refine G.op0 (og_st3 rfl rfl rfl (cells_one (by first | rfl | assumption)) rfl (by repeat (first | rfl | refine one_cons (by first | rfl | assumption) ?_)) (.zero (.cons .nil))) (fun _ _ => ?_) | refine G.op0 (og_st4 rfl rfl rfl (cells_one (by first | rfl | assumption)) rfl (by repeat (first | rfl | refine one_cons (by first | rfl | assumption) ?_)) (.zero (.cons .nil))) (fun _ _ => ?_) | refine G.op0 (og_st5 rfl rfl rfl (cells_one (by first | rfl | assumption)) rfl (by repeat (first | rfl | refine one_cons (by first | rfl | assumption) ?_)) (.zero (.cons .nil))) (fun _ _ => ?_))
  refine G.done ?_; refine G.thenN ?_; refine G.seq ?_; refine G.region ?_
  (first | refine G.v (rv_field rfl) rfl ?_ | refine G.v (rv_fieldE rfl) rfl ?_)
  (first | refine G.v (rv_load1 0 rfl rfl rfl) rfl ?_ | refine G.v (rv_load1 1 rfl rfl rfl) rfl ?_ | refine G.v (rv_load1 2 rfl rfl rfl) rfl ?_ | refine G.v (rv_load1 3 rfl rfl rfl) rfl ?_ | refine G.v (rv_load1 4 rfl rfl rfl) rfl ?_ | refine G.v (rv_load1 5 rfl rfl rfl) rfl ?_)
  (first | (refine G.op (og_callF1 rfl rfl (fun w hh => toSpotS_any w (Rd.stays h3 _ hh) ht2)) rfl ?_; rintro sv2 hov2; try dsimp only) | (refine G.op (og_callF2 rfl rfl (fun w hh => toSpotS_any w (Rd.stays h3 _ hh) ht2)) rfl ?_; rintro sv2 hov2; try dsimp only) | (refine G.op (og_callF3 rfl rfl (fun w hh => toSpotS_any w (Rd.stays h3 _ hh) ht2)) rfl ?_; rintro sv2 hov2; try dsimp only) | (refine G.op (og_callF0 rfl rfl (fun w hh => toSpotS_any w (Rd.stays h3 _ hh) ht2)) rfl ?_; rintro sv2 hov2; try dsimp only) | (refine G.op (og_callF rfl rfl (fun w hh => toSpotS_any w (Rd.stays h3 _ hh) ht2)) rfl ?_; rintro sv2 hov2; try dsimp only))
  (first | refine G.v (rv_field rfl) rfl ?_ | refine G.v (rv_fieldE rfl) rfl ?_)
  (first | refine G.op0 (og_st0 rfl rfl rfl (cells_one (by first | rfl | assumption)) rfl (by repeat (first | rfl | refine one_cons (by first | rfl | assumption) ?_)) (.succ (.zero (.cons .nil)))) (fun _ _ => ?_) | refine G.op0 (og_st1 rfl rfl rfl (cells_one (by first | rfl | assumption)) rfl (by repeat (first | rfl | refine one_cons (by first | rfl | assumption) ?_)) (.succ (.zero (.cons .nil)))) (fun _ _ => ?_) | refine G.op0 (og_st2 rfl rfl rfl (cells_one (by first | rfl | assumption)) rfl (by repeat (first | rfl | refine one_cons (by first | rfl | assumption) ?_)) (.succ (.zero (.cons .nil)))) (fun _ _ => ?_) | refine G.op0 (og_st3 rfl rfl rfl (cells_one (by first | rfl | assumption)) rfl (by repeat (first | rfl | refine one_cons (by first | rfl | assumption) ?_)) (.succ (.zero (.cons .nil)))) (fun _ _ => ?_) | refine G.op0 (og_st4 rfl rfl rfl (cells_one (by first | rfl | assumption)) rfl (by repeat (first | rfl | refine one_cons (by first | rfl | assumption) ?_)) (.succ (.zero (.cons .nil)))) (fun _ _ => ?_) | refine G.op0 (og_st5 rfl rfl rfl (cells_one (by first | rfl | assumption)) rfl (by repeat (first | rfl | refine one_cons (by first | rfl | assumption) ?_)) (.succ (.zero (.cons .nil)))) (fun _ _ => ?_))
  refine G.done ?_; refine G.thenN ?_; refine G.seq ?_; refine G.region ?_
  (first | refine G.v (rv_loadW 0 rfl rfl rfl) rfl ?_ | refine G.v (rv_loadW 1 rfl rfl rfl) rfl ?_ | refine G.v (rv_loadW 2 rfl rfl rfl) rfl ?_ | refine G.v (rv_loadW 3 rfl rfl rfl) rfl ?_ | refine G.v (rv_loadW 4 rfl rfl rfl) rfl ?_ | refine G.v (rv_loadW 5 rfl rfl rfl) rfl ?_ | refine G.v (rv_loadP 0 rfl rfl (.one (.one .nil))) rfl ?_ | refine G.v (rv_loadP 1 rfl rfl (.one (.one .nil))) rfl ?_ | refine G.v (rv_loadP 2 rfl rfl (.one (.one .nil))) rfl ?_ | refine G.v (rv_loadP 3 rfl rfl (.one (.one .nil))) rfl ?_ | refine G.v (rv_loadP 4 rfl rfl (.one (.one .nil))) rfl ?_ | refine G.v (rv_loadP 5 rfl rfl (.one (.one .nil))) rfl ?_)
  (first | refine G.op0 (og_st0 rfl rfl rfl rfl rfl (by repeat (first | rfl | refine one_cons (by first | rfl | assumption) ?_)) (.zero (.cons (.cons .nil)))) (fun _ _ => ?_) | refine G.op0 (og_st1 rfl rfl rfl rfl rfl (by repeat (first | rfl | refine one_cons (by first | rfl | assumption) ?_)) (.zero (.cons (.cons .nil)))) (fun _ _ => ?_) | refine G.op0 (og_st2 rfl rfl rfl rfl rfl (by repeat (first | rfl | refine one_cons (by first | rfl | assumption) ?_)) (.zero (.cons (.cons .nil)))) (fun _ _ => ?_) | refine G.op0 (og_st3 rfl rfl rfl rfl rfl (by repeat (first | rfl | refine one_cons (by first | rfl | assumption) ?_)) (.zero (.cons (.cons .nil)))) (fun _ _ => ?_) | refine G.op0 (og_st4 rfl rfl rfl rfl rfl (by repeat (first | rfl | refine one_cons (by first | rfl | assumption) ?_)) (.zero (.cons (.cons .nil)))) (fun _ _ => ?_) | refine G.op0 (og_st5 rfl rfl rfl rfl rfl (by repeat (first | rfl | refine one_cons (by first | rfl | assumption) ?_)) (.zero (.cons (.cons .nil)))) (fun _ _ => ?_))
  refine G.done ?_; refine G.thenN ?_; refine G.ret ?_
  exact G.retFc ((cv2, cs2), sv2) ⟨hov, hov2, hvl⟩ 4 rfl rfl rfl rfl rfl (fun w hh => hh.pick [0, 0, 0] rfl)
theorem eqPlan_any {cv sv cv' sv' : Value} {cs cs' : List (CartonM × Value)} {ss ss' : List SpotM} (w : World) (h : Rd w cv 3 (cs.map CartonM.cells)) (hs : Subs w CartonM.l cs) (h3 : Rd w sv 4 (ss.map SpotM.cells))
    (h' : Rd w cv' 3 (cs'.map CartonM.cells)) (hs' : Subs w CartonM.l cs') (h3' : Rd w sv' 4 (ss'.map SpotM.cells)) :
    FnV Tryd.prog 10 [.agg [cv, sv].toArray, .agg [cv', sv'].toArray] w (.bool (decide (cs.map Prod.fst = cs'.map Prod.fst) && decide (ss = ss'))) := by
  refine FnV.of (n := 17) Tryd.func10 rfl rfl ?_; refine G.seq ?_; refine G.region ?_; refine G.op (og_box rfl rfl) rfl (fun bk2 _ => ?_); refine G.op (og_box rfl rfl) rfl (fun bk3 _ => ?_); refine G.v (rv_assign rfl) rfl ?_; refine G.done ?_; refine G.thenN ?_; refine G.seq ?_; refine G.seq ?_; refine G.region ?_
  (first | refine G.v (rv_field rfl) rfl ?_ | refine G.v (rv_fieldE rfl) rfl ?_)
  (first | refine G.v (rv_load1 0 rfl rfl rfl) rfl ?_ | refine G.v (rv_load1 1 rfl rfl rfl) rfl ?_)
  (first | refine G.v (rv_field rfl) rfl ?_ | refine G.v (rv_fieldE rfl) rfl ?_)
  (first | refine G.v (rv_load1 0 rfl rfl rfl) rfl ?_ | refine G.v (rv_load1 1 rfl rfl rfl) rfl ?_)
  refine G.op (og_callV rfl rfl (fun w hh => eqCartonS_any w (Rd.stays h _ hh) (Subs.stays hs _ hh) (Rd.stays h' _ hh) (Subs.stays hs' _ hh))) rfl (fun _ _ => ?_); refine G.v (rv_not rfl) rfl ?_; refine G.done ?_; refine G.thenN ?_; refine G.cond rfl (fun hc => ?_) (fun hc => ?_)
  · try exact Bool.noConfusion hc
    all_goals
     try replace hc := of_decide_eq_true hc
     try (exfalso; first | contradiction | omega)
     all_goals
      refine G.seq ?_; refine G.region ?_; refine G.v (rv_assign rfl) rfl ?_; refine G.done ?_; refine G.thenN ?_; refine G.ret ?_; refine G.thenR ?_; refine G.retFV rfl rfl (congrArg Value.bool ?_); simp_all
  · try exact Bool.noConfusion hc
    all_goals
     try replace hc := of_decide_eq_false hc
     try (exfalso; first | contradiction | omega)
     all_goals
      refine G.skip ?_; refine G.thenN ?_; refine G.seq ?_; refine G.seq ?_; refine G.region ?_
      (first | refine G.v (rv_field rfl) rfl ?_ | refine G.v (rv_fieldE rfl) rfl ?_)
      (first | refine G.v (rv_load1 0 rfl rfl rfl) rfl ?_ | refine G.v (rv_load1 1 rfl rfl rfl) rfl ?_)
      (first | refine G.v (rv_field rfl) rfl ?_ | refine G.v (rv_fieldE rfl) rfl ?_)
      (first | refine G.v (rv_load1 0 rfl rfl rfl) rfl ?_ | refine G.v (rv_load1 1 rfl rfl rfl) rfl ?_)
      refine G.op (og_callV rfl rfl (fun w hh => eqSpotS_any w (Rd.stays h3 _ hh) (Rd.stays h3' _ hh))) rfl (fun _ _ => ?_); refine G.v (rv_not rfl) rfl ?_; refine G.done ?_; refine G.thenN ?_; refine G.cond rfl (fun hc => ?_) (fun hc => ?_)
      · try exact Bool.noConfusion hc
        all_goals
         try replace hc := of_decide_eq_true hc
         try (exfalso; first | contradiction | omega)
         all_goals
          refine G.seq ?_; refine G.region ?_; refine G.v (rv_assign rfl) rfl ?_; refine G.done ?_; refine G.thenN ?_; refine G.ret ?_; refine G.thenR ?_; refine G.retFV rfl rfl (congrArg Value.bool ?_); simp_all
      · try exact Bool.noConfusion hc
        all_goals
         try replace hc := of_decide_eq_false hc
         try (exfalso; first | contradiction | omega)
         all_goals
          refine G.skip ?_; refine G.thenN ?_; refine G.seq ?_; refine G.region ?_; refine G.v (rv_assign rfl) rfl ?_; refine G.done ?_; refine G.thenN ?_; refine G.ret ?_; refine G.retFV rfl rfl (congrArg Value.bool ?_); simp_all
end Go.Proofs.YtnfokjlplbbbeaaDoor

/-
  The text of a plan, and what is read of it.
-/
namespace Go.Proofs.YtnfokjlplbbbeaaDoor
open Go.Lib
abbrev wCarton : List UInt8 := [99, 97, 114, 116, 111, 110]
def lineNs (c : CartonM) (s : SpotM) : List Int := [c.t, c.g, s.p, s.x, s.y, s.z] ++ c.l
def rowT (c : CartonM) (s : SpotM) : List UInt8 := lineT wCarton (lineNs c s)
/-- The lines of cartons and their places. -/
def rowsP (cs : List CartonM) (ss : List SpotM) : List (List UInt8) := (cs.zip ss).map fun x => rowT x.1 x.2
def linesP (ls : List (List UInt8)) : List UInt8 := ls.flatMap (· ++ [10])
def planTextM (cs : List CartonM) (ss : List SpotM) : List UInt8 := if planOkM cs ss then linesP (rowsP cs ss) else []
theorem zip_takeT {α β : Type} : ∀ (a : List α) (b : List β) (k : Nat), (a.take k).zip (b.take k) = (a.zip b).take k
  | [], _, k => by simp
  | _ :: _, [], k => by simp
  | x :: a, y :: b, 0 => rfl
  | x :: a, y :: b, k + 1 => by
    rw [List.take_succ_cons, List.take_succ_cons, List.zip_cons_cons, List.zip_cons_cons, List.take_succ_cons, zip_takeT a b k]
theorem rowsP_next {cs : List CartonM} {ss : List SpotM} {k : Nat} {c : CartonM} {s : SpotM} (hc : cs[k]? = some c) (hs : ss[k]? = some s) : linesP (rowsP (cs.take (k + 1)) (ss.take (k + 1))) = linesP (rowsP (cs.take k) (ss.take k)) ++ (rowT c s ++ [10]) := by
  have hz : (cs.take (k + 1)).zip (ss.take (k + 1)) = (cs.take k).zip (ss.take k) ++ [(c, s)] := by
    rw [zip_takeT, zip_takeT, List.take_add_one]
    congr 1
    have : (cs.zip ss)[k]? = some (c, s) := by rw [List.getElem?_zip_eq_some]; exact ⟨hc, hs⟩
    rw [this]; rfl
  rw [linesP, linesP, rowsP, rowsP, hz, List.map_append, List.flatMap_append]; simp
theorem rowsP_all {cs : List CartonM} {ss : List SpotM} {k : Nat} (hk : ¬ k < cs.length) (hl : ss.length = cs.length) : rowsP (cs.take k) (ss.take k) = rowsP cs ss := by rw [List.take_of_length_le (by omega), List.take_of_length_le (by omega)]
/-- Numbers put behind a line. -/
def tailT (ns : List Int) : List UInt8 := ns.flatMap fun n => 32 :: itoa n
theorem lineT_tail (w : List UInt8) : ∀ ns, lineT w ns = w ++ tailT ns
  | [] => by rw [lineT, tailT, List.map_nil, joinM]; simp
  | n :: ns => by
    rw [lineT, List.map_cons, joinM, tailT, List.flatMap_cons]
    have := lineT_tail (itoa n) ns
    rw [lineT] at this
    rw [this, tailT]; simp
theorem tail_next {ns : List Int} {k : Nat} {n : Int} (h : ns[k]? = some n) : tailT (ns.take (k + 1)) = tailT (ns.take k) ++ 32 :: itoa n := by
  rw [tailT, tailT, List.take_add_one, h, List.flatMap_append]; simp
theorem tail_len {ns : List Int} (h : ∀ n ∈ ns, okN n) : (tailT ns).length ≤ 7 * ns.length := by
  induction ns with
  | nil => simp [tailT]
  | cons n ns ih =>
    have h1 := h n List.mem_cons_self
    have h2 := ih (fun m hm => h m (List.mem_cons_of_mem _ hm))
    have h3 : (itoa n).length ≤ 6 := by
      have := number_mk h1.1 h1.2
      rw [numberM] at this
      split at this
      · rename_i hh; exact hh.2.1
      · cases (Prod.mk.inj this).2
    rw [tailT] at h2 ⊢
    simp only [List.flatMap_cons, List.length_append, List.length_cons] at h2 ⊢
    omega
/-! ### A right plan's numbers -/
theorem planOk_at {cs : List CartonM} {ss : List SpotM} (h : planOkM cs ss = true) {k : Nat} {c : CartonM} {s : SpotM} (hc : cs[k]? = some c) (hs : ss[k]? = some s) : ((inB c.t 0 999 && inB c.g 0 3 && upM c.l) && inB s.p 0 2000 && inB s.x 0 2000 && inB s.y 0 2000 && inB s.z 0 2000) = true := by
  rw [planOkM, Bool.and_eq_true, List.all_eq_true] at h
  have := h.2 k (List.mem_range.2 (List.getElem?_eq_some_iff.1 hc).1)
  rwa [planAt, hc, hs] at this
theorem up_ok {l : List Int} (h : upM l = true) : (∀ n ∈ l, 0 ≤ n ∧ n ≤ 999) ∧ l.length ≤ 100 := by
  rw [upM, Bool.and_eq_true, decide_eq_true_eq, List.all_eq_true] at h
  refine ⟨fun n hn => ?_, h.1⟩
  obtain ⟨k, hk, rfl⟩ := List.getElem_of_mem hn
  have := h.2 k (List.mem_range.2 hk)
  rw [upAt, List.getElem?_eq_getElem hk] at this
  dsimp only at this
  rw [Bool.and_eq_true, inB, Bool.and_eq_true, decide_eq_true_eq, decide_eq_true_eq] at this
  exact this.1
theorem planOk_nums {cs : List CartonM} {ss : List SpotM} (h : planOkM cs ss = true) {k : Nat} {c : CartonM} {s : SpotM} (hc : cs[k]? = some c) (hs : ss[k]? = some s) : (∀ n ∈ lineNs c s, okN n) ∧ c.l.length ≤ 100 := by
  have h1 := planOk_at h hc hs
  simp only [inB, Bool.and_eq_true, decide_eq_true_eq] at h1
  obtain ⟨⟨⟨⟨⟨⟨g1, g2⟩, g3⟩, g4⟩, g5⟩, g6⟩, g7⟩ := h1
  obtain ⟨u1, u2⟩ := up_ok g3
  refine ⟨fun n hn => ?_, u2⟩
  simp only [lineNs, List.mem_append, List.mem_cons, List.not_mem_nil, or_false] at hn
  rcases hn with (rfl | rfl | rfl | rfl | rfl | rfl) | hn
  all_goals first | (constructor <;> omega) | (have := u1 n hn; constructor <;> omega)
/-! ### Reading -/
def cartonOf (ns : List Int) : CartonM := ⟨at0 ns 0, at0 ns 1, ns.drop 6⟩
def spotOf (ns : List Int) : SpotM := ⟨at0 ns 2, at0 ns 3, at0 ns 4, at0 ns 5⟩
def okLine (ns : List Int) : Bool := decide (6 ≤ ns.length) && planOkM [cartonOf ns] [spotOf ns]
/-- The numbers of a carton's line. -/
def lineM (l : List UInt8) : Option (List Int) := match partsM 32 l with
  | p :: ps => if p = wCarton then match numsM ps with
    | some ns => if okLine ns then some ns else none
    | none => none else none
  | [] => none
/-- What is read of a text of lines; none: it is no plan's. -/
def linesM : List (List UInt8) → Option (List (List Int))
  | [] => some []
  | l :: ls => match lineM l with
    | some ns => (linesM ls).map (ns :: ·)
    | none => none
def readPM (s : List UInt8) : Option (List (List Int)) :=
  let ls := partsM 10 s
  if ls.length - 1 ≤ 100 ∧ ls.getLast? = some [] then linesM (ls.take (ls.length - 1)) else none
end Go.Proofs.YtnfokjlplbbbeaaDoor

/-
  Lines told, and plans told: both ways; lines taken apart.
-/
namespace Go.Proofs.YtnfokjlplbbbeaaDoor
open Go.RowKit Go.Lib
theorem itoa_len6 {n : Int} (h : okN n) : (itoa n).length ≤ 6 := by
  have := number_mk h.1 h.2
  rw [numberM] at this
  split at this
  · rename_i hh; exact hh.2.1
  · cases (Prod.mk.inj this).2
theorem tail_take {ns : List Int} (h : ∀ n ∈ ns, okN n) (k : Nat) : (tailT (ns.take k)).length ≤ 7 * k := by
  have h1 := tail_len (ns := ns.take k) (fun n hn => h n (List.mem_of_mem_take hn))
  rw [List.length_take] at h1; omega
theorem rowT_len {c : CartonM} {s : SpotM} (h : ∀ n ∈ lineNs c s, okN n) (hl : c.l.length ≤ 100) : (lineT wCarton (lineNs c s) ++ [10]).length ≤ 1000 := by
  have h1 := tail_len h
  have h2 : (lineNs c s).length = 6 + c.l.length := by rw [lineNs, List.length_append]; rfl
  rw [lineT_tail, List.length_append, List.length_append]
  simp only [List.length_cons, List.length_nil]; omega
theorem inB_ok {n : Int} (h : okN n) : inB n 0 999999 = true := by
  have := h.1; have := h.2
  simp only [inB, Bool.and_eq_true, decide_eq_true_eq]; omega
attribute [local irreducible] Go.wpList Go.Code.wp Go.Exit.then Go.Exit.inBlock Go.bodyPost Go.Calls pE pB G RunsV FnV Fn FnM
set_option maxRecDepth 100000
set_option maxHeartbeats 4000000
theorem sdigitsZ_any {z : Int} (h : okN z) (w : World) : FnV Tryd.prog 45 [.int .i64 z] w (sv (itoa z)) := by
  have h0 := h.1
  have h1 := h.2
  obtain ⟨u, rfl⟩ := Int.eq_ofNat_of_zero_le h0
  rw [itoa_nonneg]
  exact sdigits_any (by omega) w
theorem textLine_any {wd : List UInt8} {ns : List Int} {v : Value} (hw : wd.length ≤ 100) (hn : ns.length ≤ 200) (hok : ∀ n ∈ ns, okN n) (w : World) (ht : TabI w) (h : Rd w v 1 (ns.map icell)) : FnV Tryd.prog 28 [sv wd, v] w (.tuple #[sv (lineT wd ns ++ [10]), .bool true]) := by
  have hln : (ns.map icell).length = ns.length := List.length_map ..
  refine FnV.of (n := 27) Tryd.func28 rfl rfl ?_; refine G.seq ?_; refine G.region ?_; refine G.v (rv_assign rfl) rfl ?_; refine G.v (rv_assign rfl) rfl ?_; refine G.done ?_; refine G.thenN ?_; refine G.seq ?_; refine G.region ?_; refine G.v (rv_move rfl) rfl ?_; refine G.v (rv_assign rfl) rfl ?_; refine G.done ?_; refine G.thenN ?_; refine G.seq ?_; refine G.seq ?_; refine G.region ?_; refine G.v (rv_move rfl) rfl ?_; refine G.v (rv_len rfl (by first | exact Rd.stays (by assumption) | exact Rd.owned 0 rfl)) rfl ?_; refine G.v (rv_move rfl) rfl ?_; refine G.done ?_; refine G.thenN ?_; refine G.block ?_
  -- loop 0: turned [6, 12], kept [10, 11]
  refine G.loopK (ι := Nat) (ks := [10, 11]) (fun k => [(6, sv (wd ++ tailT (ns.take k))), (12, .int .i64 (k : Int))]) (fun _ => []) (fun k => k ≤ ns.length) (fun k => ns.length - k) 0 (.cons rfl (.cons rfl (.nil))) rfl ?_ ?_ ?_
  · exact Nat.zero_le _
  · exact ⟨congrArg (fun l => some (sv l)) (show wd = wd ++ tailT (ns.take 0) by simp [tailT]), rfl, trivial⟩
  rintro k hk
  have htl := tail_take hok k
  by_cases hlt : k < ns.length
  case' pos => (obtain ⟨z, hz⟩ := get_of_lt hlt; have he := get_map hz icell; have hnz := hok z (List.mem_of_getElem? hz); have hi6 := itoa_len6 hnz; have hin := inB_ok hnz; have hnz0 := hnz.1; have hnz1 := hnz.2; have htn := tail_next hz)
  all_goals
   refine G.seq ?_; refine G.region ?_; refine G.v (rv_lss rfl rfl) rfl ?_; refine G.done ?_; refine G.thenN ?_; refine G.seq ?_; refine G.cond rfl (fun hc => ?_) (fun hc => ?_)
   · try exact Bool.noConfusion hc
     all_goals
      try replace hc := of_decide_eq_true hc
      try (exfalso; first | contradiction | omega)
      all_goals
       refine G.skip ?_; refine G.thenN ?_; refine G.seq ?_; refine G.block ?_; refine G.seq ?_; refine G.region ?_
       (first | refine G.v (rv_indexH rfl rfl (by first | exact Rd.stays (by assumption) | exact Rd.owned 0 rfl) rfl (by assumption)) rfl ?_ | refine G.v (rv_index rfl rfl (by first | exact Rd.stays (by assumption) | exact Rd.owned 0 rfl) rfl (by assumption)) rfl ?_)
       refine G.v (rv_loadE rfl (by first | exact Rd.stays (by assumption) | exact Rd.owned 0 rfl) (by assumption) rfl) rfl ?_; refine G.v (rv_assign rfl) rfl ?_; refine G.done ?_; refine G.thenN ?_; refine G.seq ?_; refine G.seq ?_; refine G.region ?_; refine G.v (rv_move rfl) rfl ?_; refine G.op (og_callV rfl rfl (fun w _ => in_any _ _ _ w)) rfl (fun _ _ => ?_); refine G.v (rv_not rfl) rfl ?_; refine G.done ?_; refine G.thenN ?_; refine G.cond rfl (fun hc => ?_) (fun hc => ?_)
       · try exact Bool.noConfusion hc
         all_goals
          try replace hc := of_decide_eq_true hc
          try (exfalso; first | contradiction | omega)
          all_goals
           exfalso; rw [hin] at hc; cases hc
       · try exact Bool.noConfusion hc
         all_goals
          try replace hc := of_decide_eq_false hc
          try (exfalso; first | contradiction | omega)
          all_goals
           refine G.skip ?_; refine G.thenN ?_; refine G.region ?_; refine G.v (rv_move rfl) rfl ?_; refine G.v (rv_move rfl) rfl ?_; refine G.op (og_callV rfl rfl (fun w hh => digits_any (z := z) (by omega) (by omega) w (ht.stays hh))) rfl (fun _ _ => ?_); refine G.v (rv_catS rfl rfl (by simp only [List.length_append, List.length_cons, List.length_nil]; omega)) rfl ?_; refine G.v (rv_catS rfl rfl (by simp only [List.length_append, List.length_cons, List.length_nil]; omega)) rfl ?_; refine G.v (rv_assign rfl) rfl ?_; refine G.done ?_; refine G.inN ?_; refine G.thenN ?_; refine G.region ?_
           (first | refine G.v (rv_incr rfl rfl (by omega)) rfl ?_ | refine G.v (rv_addB rfl rfl (by omega) (by omega)) rfl ?_)
           refine G.v (rv_move rfl) rfl ?_; refine G.done ?_
           first | refine G.backK (k + 1) 0 rfl (.cons rfl (.cons rfl (.nil))) ?_ ?_ ?_ | refine G.backK (k + 1) 1 rfl (.cons rfl (.cons rfl (.nil))) ?_ ?_ ?_ | refine G.backK (k + 1) 2 rfl (.cons rfl (.cons rfl (.nil))) ?_ ?_ ?_ | refine G.backK (k + 1) 3 rfl (.cons rfl (.cons rfl (.nil))) ?_ ?_ ?_
           · exact ⟨congrArg (fun l => some (sv l)) (by rw [htn]; simp), rfl, trivial⟩
           · exact hlt
           · omega
   · try exact Bool.noConfusion hc
     all_goals
      try replace hc := of_decide_eq_false hc
      try (exfalso; first | contradiction | omega)
      all_goals
       refine G.exit ?_; refine G.thenX ?_; refine G.thenX ?_; refine G.inX ?_; refine G.thenN ?_; refine G.seq ?_; refine G.region ?_; refine G.v (rv_move rfl) rfl ?_; refine G.v (rv_catS rfl rfl (by simp only [List.length_append, List.length_cons, List.length_nil]; omega)) rfl ?_; refine G.v (rv_assign rfl) rfl ?_; refine G.v (rv_assign rfl) rfl ?_; refine G.done ?_; refine G.thenN ?_; refine G.ret ?_
       exact G.retVL rfl (.cons (.tmp rfl) (.cons (.tmp rfl) .nil)) (by rw [lineT_tail, take_all (by omega)])
theorem l14Line_any (c : CartonM × Value) (s : SpotM) (hok : ∀ n ∈ lineNs c.1 s, okN n) (hl : c.1.l.length ≤ 100) (w : World) (h : Rd w c.2 1 (c.1.l.map icell)) : FnV Tryd.prog 24 [.agg (CartonM.cells c).toArray, s.val] w (sv (rowT c.1 s)) := by
  have hln : (c.1.l.map icell).length = c.1.l.length := List.length_map ..
  have hov : c.2.oneCell' = true := h.one_
  have hns : (lineNs c.1 s).length = 6 + c.1.l.length := (by rw [lineNs, List.length_append]; rfl)
  obtain ⟨⟨ct, cg, cl⟩, cv⟩ := c
  obtain ⟨sp, sx, sy, sz⟩ := s
  dsimp only at hln hov hl h hns
  refine FnV.of (n := 39) Tryd.func24 rfl rfl ?_; refine G.seq ?_; refine G.region ?_; refine G.op (og_box rfl rfl) rfl (fun bk2 _ => ?_); refine G.op (og_box rfl rfl) rfl (fun bk3 _ => ?_); refine G.v (rv_assign rfl) rfl ?_; refine G.done ?_; refine G.thenN ?_; refine G.seq ?_; refine G.region ?_; refine G.v (rv_assign rfl) rfl ?_; refine G.done ?_; refine G.thenN ?_; refine G.seq ?_; refine G.region ?_
  (first | refine G.v (rv_field rfl) rfl ?_ | refine G.v (rv_fieldE rfl) rfl ?_)
  (first | refine G.v (rv_load1 0 rfl rfl rfl) rfl ?_ | refine G.v (rv_load1 1 rfl rfl rfl) rfl ?_ | refine G.v (rv_load1 2 rfl rfl rfl) rfl ?_ | refine G.v (rv_load1 3 rfl rfl rfl) rfl ?_)
  (first | refine G.v (rv_field rfl) rfl ?_ | refine G.v (rv_fieldE rfl) rfl ?_)
  (first | refine G.v (rv_load1 0 rfl rfl rfl) rfl ?_ | refine G.v (rv_load1 1 rfl rfl rfl) rfl ?_ | refine G.v (rv_load1 2 rfl rfl rfl) rfl ?_ | refine G.v (rv_load1 3 rfl rfl rfl) rfl ?_)
  (first | refine G.v (rv_field rfl) rfl ?_ | refine G.v (rv_fieldE rfl) rfl ?_)
  (first | refine G.v (rv_load1 0 rfl rfl rfl) rfl ?_ | refine G.v (rv_load1 1 rfl rfl rfl) rfl ?_ | refine G.v (rv_load1 2 rfl rfl rfl) rfl ?_ | refine G.v (rv_load1 3 rfl rfl rfl) rfl ?_)
  (first | refine G.v (rv_field rfl) rfl ?_ | refine G.v (rv_fieldE rfl) rfl ?_)
  (first | refine G.v (rv_load1 0 rfl rfl rfl) rfl ?_ | refine G.v (rv_load1 1 rfl rfl rfl) rfl ?_ | refine G.v (rv_load1 2 rfl rfl rfl) rfl ?_ | refine G.v (rv_load1 3 rfl rfl rfl) rfl ?_)
  (first | refine G.v (rv_field rfl) rfl ?_ | refine G.v (rv_fieldE rfl) rfl ?_)
  (first | refine G.v (rv_load1 0 rfl rfl rfl) rfl ?_ | refine G.v (rv_load1 1 rfl rfl rfl) rfl ?_ | refine G.v (rv_load1 2 rfl rfl rfl) rfl ?_ | refine G.v (rv_load1 3 rfl rfl rfl) rfl ?_)
  (first | refine G.v (rv_field rfl) rfl ?_ | refine G.v (rv_fieldE rfl) rfl ?_)
  (first | refine G.v (rv_load1 0 rfl rfl rfl) rfl ?_ | refine G.v (rv_load1 1 rfl rfl rfl) rfl ?_ | refine G.v (rv_load1 2 rfl rfl rfl) rfl ?_ | refine G.v (rv_load1 3 rfl rfl rfl) rfl ?_)
  refine G.op (og_lit rfl (.cons rfl (.cons rfl (.cons rfl (.cons rfl (.cons rfl (.cons rfl .nil)))))) rfl rfl rfl rfl rfl rfl) rfl (fun vl _ => ?_)
  (first | refine G.v (rv_field rfl) rfl ?_ | refine G.v (rv_fieldE rfl) rfl ?_)
  (first | refine G.v (rv_load1 0 rfl rfl rfl) rfl ?_ | refine G.v (rv_load1 1 rfl rfl rfl) rfl ?_ | refine G.v (rv_load1 2 rfl rfl rfl) rfl ?_ | refine G.v (rv_load1 3 rfl rfl rfl) rfl ?_)
  (first | refine G.op (og_app0 rfl rfl rfl (by first | exact Rd.stays (by assumption) | exact Rd.owned 0 rfl | exact Rd.owned 1 rfl | exact Rd.owned 2 rfl | exact Rd.owned 3 rfl) rfl rfl (by first | (simp; done) | (simp; omega)) (by first | (simp; done) | (simp; omega))) rfl (fun va _ => ?_) | refine G.op (og_app1 rfl rfl rfl (by first | exact Rd.stays (by assumption) | exact Rd.owned 0 rfl | exact Rd.owned 1 rfl | exact Rd.owned 2 rfl | exact Rd.owned 3 rfl) rfl rfl (by first | (simp; done) | (simp; omega)) (by first | (simp; done) | (simp; omega))) rfl (fun va _ => ?_) | refine G.op (og_app2 rfl rfl rfl (by first | exact Rd.stays (by assumption) | exact Rd.owned 0 rfl | exact Rd.owned 1 rfl | exact Rd.owned 2 rfl | exact Rd.owned 3 rfl) rfl rfl (by first | (simp; done) | (simp; omega)) (by first | (simp; done) | (simp; omega))) rfl (fun va _ => ?_) | refine G.op (og_app3 rfl rfl rfl (by first | exact Rd.stays (by assumption) | exact Rd.owned 0 rfl | exact Rd.owned 1 rfl | exact Rd.owned 2 rfl | exact Rd.owned 3 rfl) rfl rfl (by first | (simp; done) | (simp; omega)) (by first | (simp; done) | (simp; omega))) rfl (fun va _ => ?_))
  refine G.v (rv_assign rfl) rfl ?_; refine G.done ?_; refine G.thenN ?_; refine G.seq ?_; refine G.seq ?_; refine G.region ?_; refine G.v (rv_assign rfl) rfl ?_; refine G.done ?_; refine G.thenN ?_; refine G.block ?_
  -- loop 0: turned [5, 7], kept [6]
  generalize hN : lineNs ⟨ct, cg, cl⟩ ⟨sp, sx, sy, sz⟩ = ns at hok hns
  (first | refine G.frontR0 va rfl ?_ | refine G.frontR1 va rfl ?_ | refine G.frontR2 va rfl ?_ | refine G.frontR3 va rfl ?_ | refine G.frontR4 va rfl ?_ | refine G.frontR5 va rfl ?_ | refine G.frontR6 va rfl ?_ | refine G.frontR7 va rfl ?_ | refine G.frontR8 va rfl ?_ | refine G.frontR9 va rfl ?_ | refine G.frontR10 va rfl ?_ | refine G.frontR11 va rfl ?_ | refine G.frontR12 va rfl ?_ | refine G.frontR13 va rfl ?_)
  refine G.rowEq (ns.map icell) (by rw [← hN, lineNs, List.map_append]; rfl) rfl ?_
  have hln2 : (ns.map icell).length = ns.length := List.length_map ..
  refine G.loopK (ι := Nat) (ks := [6]) (fun k => [(5, sv (wCarton ++ tailT (ns.take k))), (7, .int .i64 (k : Int))]) (fun _ => [.row va 3 1 (ns.map icell)]) (fun k => k ≤ ns.length) (fun k => ns.length - k) 0 (.cons rfl (.nil)) rfl ?_ ?_ ?_
  · exact Nat.zero_le _
  · exact ⟨congrArg (fun l => some (sv l)) (show wCarton = wCarton ++ tailT (ns.take 0) by simp [tailT]), rfl, trivial⟩
  rintro k hk
  have htl := tail_take hok k
  by_cases hlt : k < ns.length
  case' pos => (obtain ⟨z, hz⟩ := get_of_lt hlt; have he := get_map hz icell; have hnz := hok z (List.mem_of_getElem? hz); have hi6 := itoa_len6 hnz; have htn := tail_next hz)
  all_goals
   refine G.seq ?_; refine G.seq ?_; refine G.region ?_; refine G.v (rv_move rfl) rfl ?_; refine G.v (rv_move rfl) rfl ?_; refine G.v (rv_len rfl (by first | exact Rd.stays (by assumption) | exact Rd.owned 0 rfl | exact Rd.owned 1 rfl | exact Rd.owned 2 rfl | exact Rd.owned 3 rfl)) rfl ?_; refine G.v (rv_lss rfl rfl) rfl ?_; refine G.done ?_; refine G.thenN ?_; refine G.cond rfl (fun hc => ?_) (fun hc => ?_)
   · try exact Bool.noConfusion hc
     all_goals
      try replace hc := of_decide_eq_true hc
      try (exfalso; first | contradiction | omega)
      all_goals
       refine G.skip ?_; refine G.thenN ?_; refine G.seq ?_; refine G.block ?_; refine G.region ?_; refine G.v (rv_move rfl) rfl ?_; refine G.v (rv_catS rfl rfl (by simp only [List.length_append, List.length_cons, List.length_nil]; omega)) rfl ?_; refine G.v (rv_move rfl) rfl ?_; refine G.v (rv_move rfl) rfl ?_
       (first | refine G.v (rv_indexH rfl rfl (by first | exact Rd.stays (by assumption) | exact Rd.owned 0 rfl | exact Rd.owned 1 rfl | exact Rd.owned 2 rfl | exact Rd.owned 3 rfl) rfl (by assumption)) rfl ?_ | refine G.v (rv_index rfl rfl (by first | exact Rd.stays (by assumption) | exact Rd.owned 0 rfl | exact Rd.owned 1 rfl | exact Rd.owned 2 rfl | exact Rd.owned 3 rfl) rfl (by assumption)) rfl ?_)
       refine G.v (rv_loadE rfl (by first | exact Rd.stays (by assumption) | exact Rd.owned 0 rfl | exact Rd.owned 1 rfl | exact Rd.owned 2 rfl | exact Rd.owned 3 rfl) (by assumption) rfl) rfl ?_; refine G.op (og_callV rfl rfl (fun w hh => sdigitsZ_any hnz w)) rfl (fun _ _ => ?_); refine G.v (rv_catS rfl rfl (by simp only [List.length_append, List.length_cons, List.length_nil]; omega)) rfl ?_; refine G.v (rv_assign rfl) rfl ?_; refine G.done ?_; refine G.inN ?_; refine G.thenN ?_; refine G.region ?_; refine G.v (rv_move rfl) rfl ?_
       (first | refine G.v (rv_incr rfl rfl (by omega)) rfl ?_ | refine G.v (rv_addB rfl rfl (by omega) (by omega)) rfl ?_)
       refine G.v (rv_assign rfl) rfl ?_; refine G.done ?_
       first | refine G.backK (k + 1) 0 rfl (.cons rfl (.nil)) ?_ ?_ ?_
       · exact ⟨congrArg (fun l => some (sv l)) (by rw [htn]; simp), rfl, trivial⟩
       · exact hlt
       · omega
   · try exact Bool.noConfusion hc
     all_goals
      try replace hc := of_decide_eq_false hc
      try (exfalso; first | contradiction | omega)
      all_goals
       refine G.exit ?_; refine G.thenX ?_; refine G.thenX ?_; refine G.inX ?_; refine G.thenN ?_; refine G.seq ?_; refine G.region ?_; refine G.v (rv_move rfl) rfl ?_; refine G.v (rv_assign rfl) rfl ?_; refine G.done ?_; refine G.thenN ?_; refine G.ret ?_
       exact G.retFV rfl rfl (by rw [rowT, hN, lineT_tail, take_all (by omega)])
theorem planText_any {cv uv : Value} {cs : List (CartonM × Value)} {ss : List SpotM} (w : World) (ht : TabI w) (h : Rd w cv 3 (cs.map CartonM.cells)) (hs : Subs w CartonM.l cs) (h3 : Rd w uv 4 (ss.map SpotM.cells)) : FnV Tryd.prog 9 [.agg [cv, uv].toArray] w (sv (planTextM (cs.map Prod.fst) ss)) := by
  have hln : (cs.map CartonM.cells).length = cs.length := List.length_map ..
  have hln2 : (ss.map SpotM.cells).length = ss.length := List.length_map ..
  refine FnV.of (n := 50) Tryd.func9 rfl rfl ?_; refine G.seq ?_; refine G.region ?_; refine G.op (og_box rfl rfl) rfl (fun bk1 _ => ?_); refine G.v (rv_assign rfl) rfl ?_; refine G.done ?_; refine G.thenN ?_; refine G.seq ?_; refine G.seq ?_; refine G.region ?_
  (first | refine G.v (rv_loadW 0 rfl rfl rfl) rfl ?_ | refine G.v (rv_loadW 1 rfl rfl rfl) rfl ?_ | refine G.v (rv_loadW 2 rfl rfl rfl) rfl ?_ | refine G.v (rv_loadW 3 rfl rfl rfl) rfl ?_ | refine G.v (rv_loadW 4 rfl rfl rfl) rfl ?_ | refine G.v (rv_loadW 5 rfl rfl rfl) rfl ?_ | refine G.v (rv_loadP 0 rfl rfl (.one (.one .nil))) rfl ?_ | refine G.v (rv_loadP 1 rfl rfl (.one (.one .nil))) rfl ?_ | refine G.v (rv_loadP 2 rfl rfl (.one (.one .nil))) rfl ?_ | refine G.v (rv_loadP 3 rfl rfl (.one (.one .nil))) rfl ?_ | refine G.v (rv_loadP 4 rfl rfl (.one (.one .nil))) rfl ?_ | refine G.v (rv_loadP 5 rfl rfl (.one (.one .nil))) rfl ?_)
  refine G.op (og_callV rfl rfl (fun w hh => implPlanOk_any w (Rd.stays h _ hh) (Subs.stays hs _ hh) (Rd.stays h3 _ hh))) rfl (fun _ _ => ?_); refine G.v (rv_not rfl) rfl ?_; refine G.done ?_; refine G.thenN ?_; refine G.cond rfl (fun hc => ?_) (fun hc => ?_)
  · try exact Bool.noConfusion hc
    all_goals
     try replace hc := of_decide_eq_true hc
     try (exfalso; first | contradiction | omega)
     all_goals
      refine G.seq ?_; refine G.region ?_; refine G.v (rv_assign rfl) rfl ?_; refine G.done ?_; refine G.thenN ?_; refine G.ret ?_; refine G.thenR ?_
      first | exact G.retFV rfl rfl (by rw [planTextM, if_pos hok, rowsP_all (by rw [List.length_map]; omega) (by rw [List.length_map]; omega)]) | exact G.retFV rfl rfl (by rw [planTextM, if_neg (by simpa using hc)])
  · try exact Bool.noConfusion hc
    all_goals
     try replace hc := of_decide_eq_false hc
     try (exfalso; first | contradiction | omega)
     all_goals
      refine G.skip ?_; refine G.thenN ?_; refine G.seq ?_; refine G.region ?_; refine G.v (rv_assign rfl) rfl ?_; refine G.done ?_; refine G.thenN ?_; refine G.seq ?_; refine G.seq ?_; refine G.region ?_
      (first | refine G.v (rv_field rfl) rfl ?_ | refine G.v (rv_fieldE rfl) rfl ?_)
      (first | refine G.v (rv_load1 0 rfl rfl rfl) rfl ?_ | refine G.v (rv_load1 1 rfl rfl rfl) rfl ?_ | refine G.v (rv_load1 2 rfl rfl rfl) rfl ?_ | refine G.v (rv_load1 3 rfl rfl rfl) rfl ?_ | refine G.v (rv_load1 4 rfl rfl rfl) rfl ?_ | refine G.v (rv_load1 5 rfl rfl rfl) rfl ?_)
      refine G.v (rv_len rfl (by first | exact Rd.stays (by assumption) | exact Rd.owned 0 rfl | exact Rd.owned 1 rfl | exact Rd.owned 2 rfl | exact Rd.owned 3 rfl | exact Rd.owned 4 rfl | exact Rd.owned 5 rfl)) rfl ?_; refine G.v (rv_move rfl) rfl ?_; refine G.done ?_; refine G.thenN ?_; refine G.block ?_
      -- loop 0: turned [3, 15], kept [1, 13, 14]
      have hok : planOkM (cs.map Prod.fst) ss = true := (by simpa using hc)
      have hlen : ss.length = cs.length ∧ cs.length ≤ 100 := (by have h9 := hok; rw [planOkM, Bool.and_eq_true, Bool.and_eq_true, decide_eq_true_eq, decide_eq_true_eq, List.length_map] at h9; exact h9.1)
      have htl := hlen.1; have hth := hlen.2
      refine G.loopK (ι := Nat) (ks := [1, 13, 14]) (fun k => [(3, sv (linesP (rowsP ((cs.map Prod.fst).take k) (ss.take k)))), (15, .int .i64 (k : Int))]) (fun _ => []) (fun k => k ≤ cs.length ∧ (linesP (rowsP ((cs.map Prod.fst).take k) (ss.take k))).length ≤ 1000 * k) (fun k => cs.length - k) 0 (.cons rfl (.cons rfl (.cons rfl (.nil)))) rfl ?_ ?_ ?_
      · exact ⟨Nat.zero_le _, by simp [rowsP, linesP]⟩
      · exact ⟨rfl, rfl, trivial⟩
      rintro k ⟨hk, hbl⟩
      by_cases hlt : k < cs.length
      case' pos => (obtain ⟨b, hb⟩ := get_of_lt hlt; obtain ⟨s, hb2⟩ := get_of_lt (l := ss) (k := k) (by omega); have he := get_map hb CartonM.cells; have he2 := get_map hb2 SpotM.cells; have hov : b.2.oneCell' = true := (h.good _ (List.mem_of_getElem? he)).2 b.2 (by simp [CartonM.cells]); have hb1 : (cs.map Prod.fst)[k]? = some b.1 := (by rw [List.getElem?_map, hb]; rfl); obtain ⟨hoks0, hu1⟩ := planOk_nums hok hb1 hb2; have hrn := rowsP_next hb1 hb2; have hbr := hs.at hb; have hrl : (lineT wCarton (lineNs b.1 s) ++ [10]).length ≤ 1000 := rowT_len hoks0 hu1)
      all_goals
       refine G.seq ?_; refine G.region ?_; refine G.v (rv_lss rfl rfl) rfl ?_; refine G.done ?_; refine G.thenN ?_; refine G.seq ?_; refine G.cond rfl (fun hc => ?_) (fun hc => ?_)
       · try exact Bool.noConfusion hc
         all_goals
          try replace hc := of_decide_eq_true hc
          try (exfalso; first | contradiction | omega)
          all_goals
           refine G.skip ?_; refine G.thenN ?_; refine G.seq ?_; refine G.block ?_; refine G.seq ?_; refine G.region ?_; refine G.v (rv_move rfl) rfl ?_
           (first | refine G.v (rv_indexH rfl rfl (by first | exact Rd.stays (by assumption) | exact Rd.owned 0 rfl | exact Rd.owned 1 rfl | exact Rd.owned 2 rfl | exact Rd.owned 3 rfl | exact Rd.owned 4 rfl | exact Rd.owned 5 rfl) rfl (by first | exact he | exact he2)) rfl ?_ | refine G.v (rv_index rfl rfl (by first | exact Rd.stays (by assumption) | exact Rd.owned 0 rfl | exact Rd.owned 1 rfl | exact Rd.owned 2 rfl | exact Rd.owned 3 rfl | exact Rd.owned 4 rfl | exact Rd.owned 5 rfl) rfl (by assumption)) rfl ?_)
           (first | refine G.v (rv_loadEW rfl (by first | exact Rd.stays (by assumption) | exact Rd.owned 0 rfl | exact Rd.owned 1 rfl | exact Rd.owned 2 rfl | exact Rd.owned 3 rfl | exact Rd.owned 4 rfl | exact Rd.owned 5 rfl) (by first | exact he | exact he2) rfl) rfl ?_ | refine G.v (rv_loadEP rfl (by first | exact Rd.stays (by assumption) | exact Rd.owned 0 rfl | exact Rd.owned 1 rfl | exact Rd.owned 2 rfl | exact Rd.owned 3 rfl | exact Rd.owned 4 rfl | exact Rd.owned 5 rfl) (by first | exact he | exact he2) (.one (.one (.one .nil)))) rfl ?_)
           refine G.op (og_alloc) rfl (fun bk5 _ => ?_); refine G.v (rv_assign rfl) rfl ?_
           (first | refine G.op0 (og_st0 rfl rfl rfl rfl rfl (by repeat (first | rfl | refine one_cons (by first | rfl | assumption) ?_)) (.zero (.cons (.cons (.cons .nil))))) (fun _ _ => ?_) | refine G.op0 (og_st1 rfl rfl rfl rfl rfl (by repeat (first | rfl | refine one_cons (by first | rfl | assumption) ?_)) (.zero (.cons (.cons (.cons .nil))))) (fun _ _ => ?_) | refine G.op0 (og_st2 rfl rfl rfl rfl rfl (by repeat (first | rfl | refine one_cons (by first | rfl | assumption) ?_)) (.zero (.cons (.cons (.cons .nil))))) (fun _ _ => ?_) | refine G.op0 (og_st3 rfl rfl rfl rfl rfl (by repeat (first | rfl | refine one_cons (by first | rfl | assumption) ?_)) (.zero (.cons (.cons (.cons .nil))))) (fun _ _ => ?_) | refine G.op0 (og_st4 rfl rfl rfl rfl rfl (by repeat (first | rfl | refine one_cons (by first | rfl | assumption) ?_)) (.zero (.cons (.cons (.cons .nil))))) (fun _ _ => ?_) | refine G.op0 (og_st5 rfl rfl rfl rfl rfl (by repeat (first | rfl | refine one_cons (by first | rfl | assumption) ?_)) (.zero (.cons (.cons (.cons .nil))))) (fun _ _ => ?_))
           refine G.done ?_; refine G.thenN ?_; refine G.seq ?_; refine G.region ?_
           (first | refine G.v (rv_field rfl) rfl ?_ | refine G.v (rv_fieldE rfl) rfl ?_)
           (first | refine G.v (rv_load1 0 rfl rfl rfl) rfl ?_ | refine G.v (rv_load1 1 rfl rfl rfl) rfl ?_ | refine G.v (rv_load1 2 rfl rfl rfl) rfl ?_ | refine G.v (rv_load1 3 rfl rfl rfl) rfl ?_ | refine G.v (rv_load1 4 rfl rfl rfl) rfl ?_ | refine G.v (rv_load1 5 rfl rfl rfl) rfl ?_)
           refine G.v (rv_move rfl) rfl ?_
           (first | refine G.v (rv_indexH rfl rfl (by first | exact Rd.stays (by assumption) | exact Rd.owned 0 rfl | exact Rd.owned 1 rfl | exact Rd.owned 2 rfl | exact Rd.owned 3 rfl | exact Rd.owned 4 rfl | exact Rd.owned 5 rfl) rfl (by first | exact he | exact he2)) rfl ?_ | refine G.v (rv_index rfl rfl (by first | exact Rd.stays (by assumption) | exact Rd.owned 0 rfl | exact Rd.owned 1 rfl | exact Rd.owned 2 rfl | exact Rd.owned 3 rfl | exact Rd.owned 4 rfl | exact Rd.owned 5 rfl) rfl (by assumption)) rfl ?_)
           (first | refine G.v (rv_loadEW rfl (by first | exact Rd.stays (by assumption) | exact Rd.owned 0 rfl | exact Rd.owned 1 rfl | exact Rd.owned 2 rfl | exact Rd.owned 3 rfl | exact Rd.owned 4 rfl | exact Rd.owned 5 rfl) (by first | exact he | exact he2) rfl) rfl ?_ | refine G.v (rv_loadEP rfl (by first | exact Rd.stays (by assumption) | exact Rd.owned 0 rfl | exact Rd.owned 1 rfl | exact Rd.owned 2 rfl | exact Rd.owned 3 rfl | exact Rd.owned 4 rfl | exact Rd.owned 5 rfl) (by first | exact he | exact he2) (.one (.one (.one (.one .nil))))) rfl ?_)
           refine G.op (og_alloc) rfl (fun bk6 _ => ?_)
           (first | refine G.op0 (og_st0 rfl rfl rfl rfl rfl rfl (.zero (.cons (.cons (.cons (.cons .nil)))))) (fun _ _ => ?_) | refine G.op0 (og_st1 rfl rfl rfl rfl rfl rfl (.zero (.cons (.cons (.cons (.cons .nil)))))) (fun _ _ => ?_) | refine G.op0 (og_st2 rfl rfl rfl rfl rfl rfl (.zero (.cons (.cons (.cons (.cons .nil)))))) (fun _ _ => ?_) | refine G.op0 (og_st3 rfl rfl rfl rfl rfl rfl (.zero (.cons (.cons (.cons (.cons .nil)))))) (fun _ _ => ?_) | refine G.op0 (og_st4 rfl rfl rfl rfl rfl rfl (.zero (.cons (.cons (.cons (.cons .nil)))))) (fun _ _ => ?_) | refine G.op0 (og_st5 rfl rfl rfl rfl rfl rfl (.zero (.cons (.cons (.cons (.cons .nil)))))) (fun _ _ => ?_))
           refine G.done ?_; refine G.thenN ?_; refine G.seq ?_; refine G.region ?_
           (first | refine G.v (rv_field rfl) rfl ?_ | refine G.v (rv_fieldE rfl) rfl ?_)
           (first | refine G.v (rv_load1 0 rfl rfl rfl) rfl ?_ | refine G.v (rv_load1 1 rfl rfl rfl) rfl ?_ | refine G.v (rv_load1 2 rfl rfl rfl) rfl ?_ | refine G.v (rv_load1 3 rfl rfl rfl) rfl ?_ | refine G.v (rv_load1 4 rfl rfl rfl) rfl ?_ | refine G.v (rv_load1 5 rfl rfl rfl) rfl ?_)
           (first | refine G.v (rv_field rfl) rfl ?_ | refine G.v (rv_fieldE rfl) rfl ?_)
           (first | refine G.v (rv_load1 0 rfl rfl rfl) rfl ?_ | refine G.v (rv_load1 1 rfl rfl rfl) rfl ?_ | refine G.v (rv_load1 2 rfl rfl rfl) rfl ?_ | refine G.v (rv_load1 3 rfl rfl rfl) rfl ?_ | refine G.v (rv_load1 4 rfl rfl rfl) rfl ?_ | refine G.v (rv_load1 5 rfl rfl rfl) rfl ?_)
           (first | refine G.v (rv_field rfl) rfl ?_ | refine G.v (rv_fieldE rfl) rfl ?_)
           (first | refine G.v (rv_load1 0 rfl rfl rfl) rfl ?_ | refine G.v (rv_load1 1 rfl rfl rfl) rfl ?_ | refine G.v (rv_load1 2 rfl rfl rfl) rfl ?_ | refine G.v (rv_load1 3 rfl rfl rfl) rfl ?_ | refine G.v (rv_load1 4 rfl rfl rfl) rfl ?_ | refine G.v (rv_load1 5 rfl rfl rfl) rfl ?_)
           (first | refine G.v (rv_field rfl) rfl ?_ | refine G.v (rv_fieldE rfl) rfl ?_)
           (first | refine G.v (rv_load1 0 rfl rfl rfl) rfl ?_ | refine G.v (rv_load1 1 rfl rfl rfl) rfl ?_ | refine G.v (rv_load1 2 rfl rfl rfl) rfl ?_ | refine G.v (rv_load1 3 rfl rfl rfl) rfl ?_ | refine G.v (rv_load1 4 rfl rfl rfl) rfl ?_ | refine G.v (rv_load1 5 rfl rfl rfl) rfl ?_)
           (first | refine G.v (rv_field rfl) rfl ?_ | refine G.v (rv_fieldE rfl) rfl ?_)
           (first | refine G.v (rv_load1 0 rfl rfl rfl) rfl ?_ | refine G.v (rv_load1 1 rfl rfl rfl) rfl ?_ | refine G.v (rv_load1 2 rfl rfl rfl) rfl ?_ | refine G.v (rv_load1 3 rfl rfl rfl) rfl ?_ | refine G.v (rv_load1 4 rfl rfl rfl) rfl ?_ | refine G.v (rv_load1 5 rfl rfl rfl) rfl ?_)
           (first | refine G.v (rv_field rfl) rfl ?_ | refine G.v (rv_fieldE rfl) rfl ?_)
           (first | refine G.v (rv_load1 0 rfl rfl rfl) rfl ?_ | refine G.v (rv_load1 1 rfl rfl rfl) rfl ?_ | refine G.v (rv_load1 2 rfl rfl rfl) rfl ?_ | refine G.v (rv_load1 3 rfl rfl rfl) rfl ?_ | refine G.v (rv_load1 4 rfl rfl rfl) rfl ?_ | refine G.v (rv_load1 5 rfl rfl rfl) rfl ?_)
           refine G.op (og_lit rfl (.cons rfl (.cons rfl (.cons rfl (.cons rfl (.cons rfl (.cons rfl .nil)))))) rfl rfl rfl rfl rfl rfl) rfl (fun vl _ => ?_)
           (first | refine G.v (rv_field rfl) rfl ?_ | refine G.v (rv_fieldE rfl) rfl ?_)
           (first | refine G.v (rv_load1 0 rfl rfl rfl) rfl ?_ | refine G.v (rv_load1 1 rfl rfl rfl) rfl ?_ | refine G.v (rv_load1 2 rfl rfl rfl) rfl ?_ | refine G.v (rv_load1 3 rfl rfl rfl) rfl ?_ | refine G.v (rv_load1 4 rfl rfl rfl) rfl ?_ | refine G.v (rv_load1 5 rfl rfl rfl) rfl ?_)
           (first | refine G.op (og_app0 rfl rfl rfl (by first | exact Rd.stays (by assumption) | exact Rd.owned 0 rfl | exact Rd.owned 1 rfl | exact Rd.owned 2 rfl | exact Rd.owned 3 rfl | exact Rd.owned 4 rfl | exact Rd.owned 5 rfl) rfl rfl (by first | (simp; done) | (simp; omega)) (by first | (simp; done) | (simp; omega))) rfl (fun va _ => ?_) | refine G.op (og_app1 rfl rfl rfl (by first | exact Rd.stays (by assumption) | exact Rd.owned 0 rfl | exact Rd.owned 1 rfl | exact Rd.owned 2 rfl | exact Rd.owned 3 rfl | exact Rd.owned 4 rfl | exact Rd.owned 5 rfl) rfl rfl (by first | (simp; done) | (simp; omega)) (by first | (simp; done) | (simp; omega))) rfl (fun va _ => ?_) | refine G.op (og_app2 rfl rfl rfl (by first | exact Rd.stays (by assumption) | exact Rd.owned 0 rfl | exact Rd.owned 1 rfl | exact Rd.owned 2 rfl | exact Rd.owned 3 rfl | exact Rd.owned 4 rfl | exact Rd.owned 5 rfl) rfl rfl (by first | (simp; done) | (simp; omega)) (by first | (simp; done) | (simp; omega))) rfl (fun va _ => ?_) | refine G.op (og_app3 rfl rfl rfl (by first | exact Rd.stays (by assumption) | exact Rd.owned 0 rfl | exact Rd.owned 1 rfl | exact Rd.owned 2 rfl | exact Rd.owned 3 rfl | exact Rd.owned 4 rfl | exact Rd.owned 5 rfl) rfl rfl (by first | (simp; done) | (simp; omega)) (by first | (simp; done) | (simp; omega))) rfl (fun va _ => ?_) | refine G.op (og_app4 rfl rfl rfl (by first | exact Rd.stays (by assumption) | exact Rd.owned 0 rfl | exact Rd.owned 1 rfl | exact Rd.owned 2 rfl | exact Rd.owned 3 rfl | exact Rd.owned 4 rfl | exact Rd.owned 5 rfl) rfl rfl (by first | (simp; done) | (simp; omega)) (by first | (simp; done) | (simp; omega))) rfl (fun va _ => ?_) | refine G.op (og_app5 rfl rfl rfl (by first | exact Rd.stays (by assumption) | exact Rd.owned 0 rfl | exact Rd.owned 1 rfl | exact Rd.owned 2 rfl | exact Rd.owned 3 rfl | exact Rd.owned 4 rfl | exact Rd.owned 5 rfl) rfl rfl (by first | (simp; done) | (simp; omega)) (by first | (simp; done) | (simp; omega))) rfl (fun va _ => ?_))
           refine G.op (og_callV rfl rfl (fun w hh => textLine_any (wd := wCarton) (ns := lineNs b.1 s) (by decide) (by rw [lineNs, List.length_append]; simp only [List.length_cons, List.length_nil]; omega) hoks0 w (ht.stays hh) (by have hq := Rd.owned 0 rfl w hh; exact hq))) rfl (fun _ _ => ?_); refine G.v (rv_move rfl) rfl ?_; refine G.v (rv_extract rfl rfl) rfl ?_; refine G.v (rv_extract rfl rfl) rfl ?_; refine G.v (rv_assign rfl) rfl ?_; refine G.v (rv_assign rfl) rfl ?_; refine G.done ?_; refine G.thenN ?_; refine G.region ?_; refine G.v (rv_move rfl) rfl ?_; refine G.v (rv_move rfl) rfl ?_; refine G.v (rv_catS rfl rfl (by omega)) rfl ?_; refine G.v (rv_assign rfl) rfl ?_; refine G.done ?_; refine G.inN ?_; refine G.thenN ?_; refine G.region ?_
           (first | refine G.v (rv_incr rfl rfl (by omega)) rfl ?_ | refine G.v (rv_addB rfl rfl (by omega) (by omega)) rfl ?_)
           refine G.v (rv_move rfl) rfl ?_; refine G.done ?_
           first | refine G.backK (k + 1) 0 rfl (.cons rfl (.cons rfl (.cons rfl (.nil)))) ?_ ?_ ?_ | refine G.backK (k + 1) 1 rfl (.cons rfl (.cons rfl (.cons rfl (.nil)))) ?_ ?_ ?_ | refine G.backK (k + 1) 2 rfl (.cons rfl (.cons rfl (.cons rfl (.nil)))) ?_ ?_ ?_ | refine G.backK (k + 1) 3 rfl (.cons rfl (.cons rfl (.cons rfl (.nil)))) ?_ ?_ ?_ | refine G.backK (k + 1) 4 rfl (.cons rfl (.cons rfl (.cons rfl (.nil)))) ?_ ?_ ?_ | refine G.backK (k + 1) 5 rfl (.cons rfl (.cons rfl (.cons rfl (.nil)))) ?_ ?_ ?_
           · exact ⟨congrArg (fun l => some (sv l)) hrn.symm, rfl, trivial⟩
           · exact ⟨hlt, by rw [hrn, List.length_append]; show _ + (lineT wCarton (lineNs b.1 s) ++ [10]).length ≤ _; omega⟩
           · omega
       · try exact Bool.noConfusion hc
         all_goals
          try replace hc := of_decide_eq_false hc
          try (exfalso; first | contradiction | omega)
          all_goals
           refine G.exit ?_; refine G.thenX ?_; refine G.thenX ?_; refine G.inX ?_; refine G.thenN ?_; refine G.seq ?_; refine G.region ?_; refine G.v (rv_move rfl) rfl ?_; refine G.v (rv_assign rfl) rfl ?_; refine G.done ?_; refine G.thenN ?_; refine G.ret ?_
           first | exact G.retFV rfl rfl (by rw [planTextM, if_pos hok, rowsP_all (by rw [List.length_map]; omega) (by rw [List.length_map]; omega)]) | exact G.retFV rfl rfl (by rw [planTextM, if_neg (by simpa using hc)])
end Go.Proofs.YtnfokjlplbbbeaaDoor

/-
  The law of a plan's text.
-/
namespace Go.Proofs.YtnfokjlplbbbeaaDoor
open Go.RowKit Go.Lib
attribute [local irreducible] Go.wpList Go.Code.wp Go.Exit.then Go.Exit.inBlock Go.bodyPost Go.Calls pE pB G RunsV FnV Fn FnM
set_option maxRecDepth 100000
set_option maxHeartbeats 4000000
theorem splanText_any {cv uv : Value} {cs : List (CartonM × Value)} {ss : List SpotM} (w : World) (h : Rd w cv 3 (cs.map CartonM.cells)) (hs : Subs w CartonM.l cs) (h3 : Rd w uv 4 (ss.map SpotM.cells)) : FnV Tryd.prog 7 [.agg [cv, uv].toArray] w (sv (planTextM (cs.map Prod.fst) ss)) := by
  have hln : (cs.map CartonM.cells).length = cs.length := List.length_map ..
  have hln2 : (ss.map SpotM.cells).length = ss.length := List.length_map ..
  refine FnV.of (n := 31) Tryd.func7 rfl rfl ?_; refine G.seq ?_; refine G.region ?_; refine G.op (og_box rfl rfl) rfl (fun bk1 _ => ?_); refine G.v (rv_assign rfl) rfl ?_; refine G.done ?_; refine G.thenN ?_; refine G.seq ?_; refine G.region ?_; refine G.v (rv_assign rfl) rfl ?_; refine G.done ?_; refine G.thenN ?_; refine G.seq ?_; refine G.seq ?_; refine G.region ?_
  (first | refine G.v (rv_loadW 0 rfl rfl rfl) rfl ?_ | refine G.v (rv_loadW 1 rfl rfl rfl) rfl ?_ | refine G.v (rv_loadW 2 rfl rfl rfl) rfl ?_ | refine G.v (rv_loadP 0 rfl rfl (.one (.one .nil))) rfl ?_ | refine G.v (rv_loadP 1 rfl rfl (.one (.one .nil))) rfl ?_ | refine G.v (rv_loadP 2 rfl rfl (.one (.one .nil))) rfl ?_)
  refine G.op (og_callV rfl rfl (fun w hh => specPlanOk_any w (Rd.stays h _ hh) (Subs.stays hs _ hh) (Rd.stays h3 _ hh))) rfl (fun _ _ => ?_); refine G.v (rv_not rfl) rfl ?_; refine G.done ?_; refine G.thenN ?_; refine G.cond rfl (fun hc => ?_) (fun hc => ?_)
  · try exact Bool.noConfusion hc
    all_goals
     try replace hc := of_decide_eq_true hc
     try (exfalso; first | contradiction | omega)
     all_goals
      refine G.seq ?_; refine G.region ?_; refine G.v (rv_move rfl) rfl ?_; refine G.v (rv_assign rfl) rfl ?_; refine G.done ?_; refine G.thenN ?_; refine G.ret ?_; refine G.thenR ?_
      first | exact G.retFV rfl rfl (by rw [planTextM, if_pos hok, rowsP_all (by rw [List.length_map]; omega) (by rw [List.length_map]; omega)]) | exact G.retFV rfl rfl (by rw [planTextM, if_neg (by simpa using hc)])
  · try exact Bool.noConfusion hc
    all_goals
     try replace hc := of_decide_eq_false hc
     try (exfalso; first | contradiction | omega)
     all_goals
      refine G.skip ?_; refine G.thenN ?_; refine G.seq ?_; refine G.seq ?_; refine G.region ?_; refine G.v (rv_assign rfl) rfl ?_; refine G.done ?_; refine G.thenN ?_; refine G.block ?_
      -- loop 0: turned [3, 4], kept [1]
      have hok : planOkM (cs.map Prod.fst) ss = true := (by simpa using hc)
      have hlen : ss.length = cs.length ∧ cs.length ≤ 100 := (by have h9 := hok; rw [planOkM, Bool.and_eq_true, Bool.and_eq_true, decide_eq_true_eq, decide_eq_true_eq, List.length_map] at h9; exact h9.1)
      have htl := hlen.1; have hth := hlen.2
      refine G.loopK (ι := Nat) (ks := [1]) (fun k => [(3, sv (linesP (rowsP ((cs.map Prod.fst).take k) (ss.take k)))), (4, .int .i64 (k : Int))]) (fun _ => [.blk bk1 31 [cv, uv]]) (fun k => k ≤ cs.length ∧ (linesP (rowsP ((cs.map Prod.fst).take k) (ss.take k))).length ≤ 1000 * k) (fun k => cs.length - k) 0 (.cons rfl (.nil)) rfl ?_ ?_ ?_
      · exact ⟨Nat.zero_le _, by simp [rowsP, linesP]⟩
      · exact ⟨rfl, rfl, trivial⟩
      rintro k ⟨hk, hbl⟩
      by_cases hlt : k < cs.length
      case' pos => (obtain ⟨b, hb⟩ := get_of_lt hlt; obtain ⟨s, hb2⟩ := get_of_lt (l := ss) (k := k) (by omega); have he := get_map hb CartonM.cells; have he2 := get_map hb2 SpotM.cells; have hov : b.2.oneCell' = true := (h.good _ (List.mem_of_getElem? he)).2 b.2 (by simp [CartonM.cells]); have hb1 : (cs.map Prod.fst)[k]? = some b.1 := (by rw [List.getElem?_map, hb]; rfl); obtain ⟨hoks0, hu1⟩ := planOk_nums hok hb1 hb2; have hrn := rowsP_next hb1 hb2; have hbr := hs.at hb; have hrl : (lineT wCarton (lineNs b.1 s) ++ [10]).length ≤ 1000 := rowT_len hoks0 hu1; have hrl2 : (rowT b.1 s).length + 1 ≤ 1000 := (by rw [List.length_append] at hrl; exact hrl))
      all_goals
       refine G.seq ?_; refine G.seq ?_; refine G.region ?_; refine G.v (rv_move rfl) rfl ?_
       (first | refine G.v (rv_field rfl) rfl ?_ | refine G.v (rv_fieldE rfl) rfl ?_)
       (first | refine G.v (rv_load1 0 rfl rfl rfl) rfl ?_ | refine G.v (rv_load1 1 rfl rfl rfl) rfl ?_ | refine G.v (rv_load1 2 rfl rfl rfl) rfl ?_)
       refine G.v (rv_len rfl (by first | exact Rd.stays (by assumption) | exact Rd.owned 0 rfl | exact Rd.owned 1 rfl | exact Rd.owned 2 rfl)) rfl ?_; refine G.v (rv_lss rfl rfl) rfl ?_; refine G.done ?_; refine G.thenN ?_; refine G.cond rfl (fun hc => ?_) (fun hc => ?_)
       · try exact Bool.noConfusion hc
         all_goals
          try replace hc := of_decide_eq_true hc
          try (exfalso; first | contradiction | omega)
          all_goals
           refine G.skip ?_; refine G.thenN ?_; refine G.seq ?_; refine G.block ?_; refine G.drawL [14] ?_; refine GE.q 0 rfl (by as_aux_lemma => kernel_rfl) rfl (qg_runs (rv_move rfl)) rfl ?_
           (first | refine GE.q 1 rfl (by as_aux_lemma => kernel_rfl) rfl (qg_runs (rv_field rfl)) rfl ?_ | refine GE.q 1 rfl (by as_aux_lemma => kernel_rfl) rfl (qg_runs (rv_fieldE rfl)) rfl ?_)
           (first | refine GE.q 2 rfl (by as_aux_lemma => kernel_rfl) rfl (qg_runs (rv_load1 0 rfl rfl rfl)) rfl ?_ | refine GE.q 2 rfl (by as_aux_lemma => kernel_rfl) rfl (qg_runs (rv_load1 1 rfl rfl rfl)) rfl ?_ | refine GE.q 2 rfl (by as_aux_lemma => kernel_rfl) rfl (qg_runs (rv_load1 2 rfl rfl rfl)) rfl ?_)
           refine GE.q 3 rfl (by as_aux_lemma => kernel_rfl) rfl (qg_runs (rv_move rfl)) rfl ?_
           (first | refine GE.q 4 rfl (by as_aux_lemma => kernel_rfl) rfl (qg_runs (rv_indexH rfl rfl (by first | exact Rd.stays (by assumption) | exact Rd.owned 0 rfl | exact Rd.owned 1 rfl | exact Rd.owned 2 rfl) rfl (by first | exact he | exact he2))) rfl ?_ | refine GE.q 4 rfl (by as_aux_lemma => kernel_rfl) rfl (qg_runs (rv_index rfl rfl (by first | exact Rd.stays (by assumption) | exact Rd.owned 0 rfl | exact Rd.owned 1 rfl | exact Rd.owned 2 rfl) rfl (by assumption))) rfl ?_)
           (first | refine GE.q 5 rfl (by as_aux_lemma => kernel_rfl) rfl (qg_runs (rv_loadEW rfl (by first | exact Rd.stays (by assumption) | exact Rd.owned 0 rfl | exact Rd.owned 1 rfl | exact Rd.owned 2 rfl) (by first | exact he | exact he2) rfl)) rfl ?_ | refine GE.q 5 rfl (by as_aux_lemma => kernel_rfl) rfl (qg_runs (rv_loadEP rfl (by first | exact Rd.stays (by assumption) | exact Rd.owned 0 rfl | exact Rd.owned 1 rfl | exact Rd.owned 2 rfl) (by first | exact he | exact he2) (.one (.one (.one .nil))))) rfl ?_)
           (first | refine GE.q 6 rfl (by as_aux_lemma => kernel_rfl) rfl (qg_runs (rv_field rfl)) rfl ?_ | refine GE.q 6 rfl (by as_aux_lemma => kernel_rfl) rfl (qg_runs (rv_fieldE rfl)) rfl ?_)
           (first | refine GE.q 7 rfl (by as_aux_lemma => kernel_rfl) rfl (qg_runs (rv_load1 0 rfl rfl rfl)) rfl ?_ | refine GE.q 7 rfl (by as_aux_lemma => kernel_rfl) rfl (qg_runs (rv_load1 1 rfl rfl rfl)) rfl ?_ | refine GE.q 7 rfl (by as_aux_lemma => kernel_rfl) rfl (qg_runs (rv_load1 2 rfl rfl rfl)) rfl ?_)
           refine GE.ol 8 (by as_aux_lemma => kernel_rfl) rfl rfl (og_runs (rv_move rfl)) rfl (fun _ _ h => by first | exact h | exact h.drop 1 | exact h.drop 2 | exact h.drop 3 | exact h.drop 4 | exact h.drop 5 | exact h.drop 6 | exact h.drop 7 | exact h.drop 8 | exact h.drop 9 | exact h.drop 10 | exact h.drop 11 | exact h.drop 12 | exact h.drop 13) (fun _ _ => ?_)
           (first | refine GE.ol 9 (by as_aux_lemma => kernel_rfl) rfl rfl (og_runs (rv_indexH rfl rfl (by first | exact Rd.stays (by assumption) | exact Rd.owned 0 rfl | exact Rd.owned 1 rfl | exact Rd.owned 2 rfl) rfl (by first | exact he | exact he2))) rfl (fun _ _ h => by first | exact h | exact h.drop 1 | exact h.drop 2 | exact h.drop 3 | exact h.drop 4 | exact h.drop 5 | exact h.drop 6 | exact h.drop 7 | exact h.drop 8 | exact h.drop 9 | exact h.drop 10 | exact h.drop 11 | exact h.drop 12 | exact h.drop 13) (fun _ _ => ?_) | refine GE.ol 9 (by as_aux_lemma => kernel_rfl) rfl rfl (og_runs (rv_index rfl rfl (by first | exact Rd.stays (by assumption) | exact Rd.owned 0 rfl | exact Rd.owned 1 rfl | exact Rd.owned 2 rfl) rfl (by assumption))) rfl (fun _ _ h => by first | exact h | exact h.drop 1 | exact h.drop 2 | exact h.drop 3 | exact h.drop 4 | exact h.drop 5 | exact h.drop 6 | exact h.drop 7 | exact h.drop 8 | exact h.drop 9 | exact h.drop 10 | exact h.drop 11 | exact h.drop 12 | exact h.drop 13) (fun _ _ => ?_))
           (first | refine GE.ol 10 (by as_aux_lemma => kernel_rfl) rfl rfl (og_runs (rv_loadEW rfl (by first | exact Rd.stays (by assumption) | exact Rd.owned 0 rfl | exact Rd.owned 1 rfl | exact Rd.owned 2 rfl) (by first | exact he | exact he2) rfl)) rfl (fun _ _ h => by first | exact h | exact h.drop 1 | exact h.drop 2 | exact h.drop 3 | exact h.drop 4 | exact h.drop 5 | exact h.drop 6 | exact h.drop 7 | exact h.drop 8 | exact h.drop 9 | exact h.drop 10 | exact h.drop 11 | exact h.drop 12 | exact h.drop 13) (fun _ _ => ?_) | refine GE.ol 10 (by as_aux_lemma => kernel_rfl) rfl rfl (og_runs (rv_loadEP rfl (by first | exact Rd.stays (by assumption) | exact Rd.owned 0 rfl | exact Rd.owned 1 rfl | exact Rd.owned 2 rfl) (by first | exact he | exact he2) (.one (.one (.one (.one .nil)))))) rfl (fun _ _ h => by first | exact h | exact h.drop 1 | exact h.drop 2 | exact h.drop 3 | exact h.drop 4 | exact h.drop 5 | exact h.drop 6 | exact h.drop 7 | exact h.drop 8 | exact h.drop 9 | exact h.drop 10 | exact h.drop 11 | exact h.drop 12 | exact h.drop 13) (fun _ _ => ?_))
           refine GE.ol 11 (by as_aux_lemma => kernel_rfl) rfl rfl (og_callV rfl rfl (fun w hh => l14Line_any b s hoks0 hu1 w (Rd.stays hbr _ hh))) rfl (fun _ _ h => by first | exact h | exact h.drop 1 | exact h.drop 2 | exact h.drop 3 | exact h.drop 4 | exact h.drop 5 | exact h.drop 6 | exact h.drop 7 | exact h.drop 8 | exact h.drop 9 | exact h.drop 10 | exact h.drop 11 | exact h.drop 12 | exact h.drop 13) (fun _ _ => ?_); refine GE.ol 12 (by as_aux_lemma => kernel_rfl) rfl rfl (og_runs (rv_catS rfl rfl (by first | omega | (simp only [List.length_append, List.length_cons, List.length_nil]; omega)))) rfl (fun _ _ h => by first | exact h | exact h.drop 1 | exact h.drop 2 | exact h.drop 3 | exact h.drop 4 | exact h.drop 5 | exact h.drop 6 | exact h.drop 7 | exact h.drop 8 | exact h.drop 9 | exact h.drop 10 | exact h.drop 11 | exact h.drop 12 | exact h.drop 13) (fun _ _ => ?_); refine GE.ol 13 (by as_aux_lemma => kernel_rfl) rfl rfl (og_runs (rv_catS rfl rfl (by first | omega | (simp only [List.length_append, List.length_cons, List.length_nil]; omega)))) rfl (fun _ _ h => by first | exact h | exact h.drop 1 | exact h.drop 2 | exact h.drop 3 | exact h.drop 4 | exact h.drop 5 | exact h.drop 6 | exact h.drop 7 | exact h.drop 8 | exact h.drop 9 | exact h.drop 10 | exact h.drop 11 | exact h.drop 12 | exact h.drop 13) (fun _ _ => ?_); refine GE.t 14 (by as_aux_lemma => kernel_rfl) rfl rfl rfl (og_runs (rv_assign rfl)) rfl (fun _ _ => ?_)
           refine GE.done (by as_aux_lemma => kernel_rfl) ?_; refine G.inN ?_; refine G.thenN ?_; refine G.region ?_; refine G.v (rv_move rfl) rfl ?_
           (first | refine G.v (rv_incr rfl rfl (by omega)) rfl ?_ | refine G.v (rv_addB rfl rfl (by omega) (by omega)) rfl ?_)
           refine G.v (rv_assign rfl) rfl ?_; refine G.done ?_
           first | refine G.backK (k + 1) 0 rfl (.cons rfl (.nil)) ?_ ?_ ?_ | refine G.backK (k + 1) 1 rfl (.cons rfl (.nil)) ?_ ?_ ?_ | refine G.backK (k + 1) 2 rfl (.cons rfl (.nil)) ?_ ?_ ?_ | refine G.backK (k + 1) 3 rfl (.cons rfl (.nil)) ?_ ?_ ?_
           · exact ⟨congrArg (fun l => some (sv l)) (by rw [hrn]; simp), rfl, trivial⟩
           · exact ⟨hlt, by rw [hrn, List.length_append, List.length_append]; simp only [List.length_cons, List.length_nil]; omega⟩
           · omega
       · try exact Bool.noConfusion hc
         all_goals
          try replace hc := of_decide_eq_false hc
          try (exfalso; first | contradiction | omega)
          all_goals
           refine G.exit ?_; refine G.thenX ?_; refine G.thenX ?_; refine G.inX ?_; refine G.thenN ?_; refine G.seq ?_; refine G.region ?_; refine G.v (rv_move rfl) rfl ?_; refine G.v (rv_assign rfl) rfl ?_; refine G.done ?_; refine G.thenN ?_; refine G.ret ?_
           first | exact G.retFV rfl rfl (by rw [planTextM, if_pos hok, rowsP_all (by rw [List.length_map]; omega) (by rw [List.length_map]; omega)]) | exact G.retFV rfl rfl (by rw [planTextM, if_neg (by simpa using hc)])
theorem fnExactPlanText_any {cv uv : Value} {cs : List (CartonM × Value)} {ss : List SpotM} {w : World} (h : Rd w cv 3 (cs.map CartonM.cells)) (hs : Subs w CartonM.l cs) (h3 : Rd w uv 4 (ss.map SpotM.cells)) (ht : TabI w) : FnV Tryd.prog 3 [.agg [cv, uv].toArray] w (.bool true) := by
  refine FnV.of (n := 27) Tryd.func3 rfl rfl ?_; refine G.seq ?_; refine G.region ?_; refine G.op (og_box rfl rfl) rfl (fun bk1 _ => ?_); refine G.v (rv_assign rfl) rfl ?_; refine G.done ?_; refine G.thenN ?_; refine G.seq ?_; refine G.region ?_; refine G.v (rv_assign rfl) rfl ?_; refine G.done ?_; refine G.thenN ?_; refine G.seq ?_; refine G.region ?_
  (first | refine G.v (rv_loadW 0 rfl rfl rfl) rfl ?_ | refine G.v (rv_loadW 1 rfl rfl rfl) rfl ?_ | refine G.v (rv_loadW 2 rfl rfl rfl) rfl ?_ | refine G.v (rv_loadW 3 rfl rfl rfl) rfl ?_ | refine G.v (rv_loadW 4 rfl rfl rfl) rfl ?_ | refine G.v (rv_loadW 5 rfl rfl rfl) rfl ?_ | refine G.v (rv_loadW 6 rfl rfl rfl) rfl ?_ | refine G.v (rv_loadW 7 rfl rfl rfl) rfl ?_ | refine G.v (rv_loadW 8 rfl rfl rfl) rfl ?_ | refine G.v (rv_loadW 9 rfl rfl rfl) rfl ?_ | refine G.v (rv_loadP 0 rfl rfl (.one (.one .nil))) rfl ?_ | refine G.v (rv_loadP 1 rfl rfl (.one (.one .nil))) rfl ?_ | refine G.v (rv_loadP 2 rfl rfl (.one (.one .nil))) rfl ?_ | refine G.v (rv_loadP 3 rfl rfl (.one (.one .nil))) rfl ?_ | refine G.v (rv_loadP 4 rfl rfl (.one (.one .nil))) rfl ?_ | refine G.v (rv_loadP 5 rfl rfl (.one (.one .nil))) rfl ?_ | refine G.v (rv_loadP 6 rfl rfl (.one (.one .nil))) rfl ?_ | refine G.v (rv_loadP 7 rfl rfl (.one (.one .nil))) rfl ?_ | refine G.v (rv_loadP 8 rfl rfl (.one (.one .nil))) rfl ?_ | refine G.v (rv_loadP 9 rfl rfl (.one (.one .nil))) rfl ?_)
  refine G.v (rv_move rfl) rfl ?_
  refine G.op (og_callV rfl rfl (fun w hh => szPlan_any _ w (by first | exact Rd.stays (by assumption) _ hh | exact Rd.owned 0 rfl _ hh | exact Rd.owned 1 rfl _ hh | exact Rd.owned 2 rfl _ hh | exact Rd.owned 3 rfl _ hh | exact Rd.owned 4 rfl _ hh | exact Rd.owned 5 rfl _ hh | exact Rd.owned 6 rfl _ hh | exact Rd.owned 7 rfl _ hh | exact Rd.owned 8 rfl _ hh | exact Rd.owned 9 rfl _ hh | exact Rd.owned 10 rfl _ hh | exact Rd.owned 11 rfl _ hh | exact Rd.owned 12 rfl _ hh | exact Rd.owned 13 rfl _ hh | exact Rd.owned 14 rfl _ hh | exact Rd.owned 15 rfl _ hh) (by first | exact Subs.stays (by assumption) _ hh | exact Subs.owned 0 rfl _ hh | exact Subs.owned 1 rfl _ hh | exact Subs.owned 2 rfl _ hh | exact Subs.owned 3 rfl _ hh | exact Subs.owned 4 rfl _ hh | exact Subs.owned 5 rfl _ hh | exact Subs.owned 6 rfl _ hh | exact Subs.owned 7 rfl _ hh | exact Subs.owned 8 rfl _ hh | exact Subs.owned 9 rfl _ hh | exact Subs.owned 10 rfl _ hh | exact Subs.owned 11 rfl _ hh | exact Subs.owned 12 rfl _ hh | exact Subs.owned 13 rfl _ hh | exact Subs.owned 14 rfl _ hh | exact Subs.owned 15 rfl _ hh) (by first | exact Rd.stays (by assumption) _ hh | exact Rd.owned 0 rfl _ hh | exact Rd.owned 1 rfl _ hh | exact Rd.owned 2 rfl _ hh | exact Rd.owned 3 rfl _ hh | exact Rd.owned 4 rfl _ hh | exact Rd.owned 5 rfl _ hh | exact Rd.owned 6 rfl _ hh | exact Rd.owned 7 rfl _ hh | exact Rd.owned 8 rfl _ hh | exact Rd.owned 9 rfl _ hh | exact Rd.owned 10 rfl _ hh | exact Rd.owned 11 rfl _ hh | exact Rd.owned 12 rfl _ hh | exact Rd.owned 13 rfl _ hh | exact Rd.owned 14 rfl _ hh | exact Rd.owned 15 rfl _ hh) (by (try simp only [szM] at *); omega) (by (try simp only [szM] at *); omega))) rfl (fun _ _ => ?_)
  refine G.v (rv_assign rfl) rfl ?_; refine G.done ?_; refine G.thenN ?_; refine G.seq ?_; refine G.seq ?_; refine G.region ?_; refine G.v (rv_move rfl) rfl ?_; refine G.v (rv_lss rfl rfl) rfl ?_; refine G.done ?_; refine G.thenN ?_; refine G.cond rfl (fun hc => ?_) (fun hc => ?_)
  · try exact Bool.noConfusion hc
    all_goals
     try replace hc := of_decide_eq_true hc
     try (exfalso; first | contradiction | omega)
     all_goals
      refine G.seq ?_; refine G.region ?_; refine G.v (rv_assign rfl) rfl ?_; refine G.done ?_; refine G.thenN ?_; refine G.ret ?_; refine G.thenR ?_
      first | exact G.retFV rfl rfl rfl | (exfalso; simp_all)
  · try exact Bool.noConfusion hc
    all_goals
     try replace hc := of_decide_eq_false hc
     try (exfalso; first | contradiction | omega)
     all_goals
      refine G.skip ?_; refine G.thenN ?_; refine G.seq ?_; refine G.region ?_
      (first | refine G.v (rv_loadW 0 rfl rfl rfl) rfl ?_ | refine G.v (rv_loadW 1 rfl rfl rfl) rfl ?_ | refine G.v (rv_loadW 2 rfl rfl rfl) rfl ?_ | refine G.v (rv_loadW 3 rfl rfl rfl) rfl ?_ | refine G.v (rv_loadW 4 rfl rfl rfl) rfl ?_ | refine G.v (rv_loadW 5 rfl rfl rfl) rfl ?_ | refine G.v (rv_loadW 6 rfl rfl rfl) rfl ?_ | refine G.v (rv_loadW 7 rfl rfl rfl) rfl ?_ | refine G.v (rv_loadW 8 rfl rfl rfl) rfl ?_ | refine G.v (rv_loadW 9 rfl rfl rfl) rfl ?_ | refine G.v (rv_loadP 0 rfl rfl (.one (.one .nil))) rfl ?_ | refine G.v (rv_loadP 1 rfl rfl (.one (.one .nil))) rfl ?_ | refine G.v (rv_loadP 2 rfl rfl (.one (.one .nil))) rfl ?_ | refine G.v (rv_loadP 3 rfl rfl (.one (.one .nil))) rfl ?_ | refine G.v (rv_loadP 4 rfl rfl (.one (.one .nil))) rfl ?_ | refine G.v (rv_loadP 5 rfl rfl (.one (.one .nil))) rfl ?_ | refine G.v (rv_loadP 6 rfl rfl (.one (.one .nil))) rfl ?_ | refine G.v (rv_loadP 7 rfl rfl (.one (.one .nil))) rfl ?_ | refine G.v (rv_loadP 8 rfl rfl (.one (.one .nil))) rfl ?_ | refine G.v (rv_loadP 9 rfl rfl (.one (.one .nil))) rfl ?_)
      (first | (refine G.op (og_callF1 rfl rfl (fun w hh => toPlan_any w (by first | exact Rd.stays (by assumption) _ hh | exact Rd.owned 0 rfl _ hh | exact Rd.owned 1 rfl _ hh | exact Rd.owned 2 rfl _ hh | exact Rd.owned 3 rfl _ hh | exact Rd.owned 4 rfl _ hh | exact Rd.owned 5 rfl _ hh | exact Rd.owned 6 rfl _ hh | exact Rd.owned 7 rfl _ hh | exact Rd.owned 8 rfl _ hh | exact Rd.owned 9 rfl _ hh | exact Rd.owned 10 rfl _ hh | exact Rd.owned 11 rfl _ hh | exact Rd.owned 12 rfl _ hh | exact Rd.owned 13 rfl _ hh | exact Rd.owned 14 rfl _ hh | exact Rd.owned 15 rfl _ hh) (by first | exact Subs.stays (by assumption) _ hh | exact Subs.owned 0 rfl _ hh | exact Subs.owned 1 rfl _ hh | exact Subs.owned 2 rfl _ hh | exact Subs.owned 3 rfl _ hh | exact Subs.owned 4 rfl _ hh | exact Subs.owned 5 rfl _ hh | exact Subs.owned 6 rfl _ hh | exact Subs.owned 7 rfl _ hh | exact Subs.owned 8 rfl _ hh | exact Subs.owned 9 rfl _ hh | exact Subs.owned 10 rfl _ hh | exact Subs.owned 11 rfl _ hh | exact Subs.owned 12 rfl _ hh | exact Subs.owned 13 rfl _ hh | exact Subs.owned 14 rfl _ hh | exact Subs.owned 15 rfl _ hh) (by first | exact Rd.stays (by assumption) _ hh | exact Rd.owned 0 rfl _ hh | exact Rd.owned 1 rfl _ hh | exact Rd.owned 2 rfl _ hh | exact Rd.owned 3 rfl _ hh | exact Rd.owned 4 rfl _ hh | exact Rd.owned 5 rfl _ hh | exact Rd.owned 6 rfl _ hh | exact Rd.owned 7 rfl _ hh | exact Rd.owned 8 rfl _ hh | exact Rd.owned 9 rfl _ hh | exact Rd.owned 10 rfl _ hh | exact Rd.owned 11 rfl _ hh | exact Rd.owned 12 rfl _ hh | exact Rd.owned 13 rfl _ hh | exact Rd.owned 14 rfl _ hh | exact Rd.owned 15 rfl _ hh) (by (try simp only [szM] at *); omega) (by (try simp only [szM] at *); omega))) rfl ?_; rintro ⟨⟨cv2, cs2⟩, sv2⟩ ⟨hov, hov2, hvl⟩; try dsimp only) | (refine G.op (og_callF2 rfl rfl (fun w hh => toPlan_any w (by first | exact Rd.stays (by assumption) _ hh | exact Rd.owned 0 rfl _ hh | exact Rd.owned 1 rfl _ hh | exact Rd.owned 2 rfl _ hh | exact Rd.owned 3 rfl _ hh | exact Rd.owned 4 rfl _ hh | exact Rd.owned 5 rfl _ hh | exact Rd.owned 6 rfl _ hh | exact Rd.owned 7 rfl _ hh | exact Rd.owned 8 rfl _ hh | exact Rd.owned 9 rfl _ hh | exact Rd.owned 10 rfl _ hh | exact Rd.owned 11 rfl _ hh | exact Rd.owned 12 rfl _ hh | exact Rd.owned 13 rfl _ hh | exact Rd.owned 14 rfl _ hh | exact Rd.owned 15 rfl _ hh) (by first | exact Subs.stays (by assumption) _ hh | exact Subs.owned 0 rfl _ hh | exact Subs.owned 1 rfl _ hh | exact Subs.owned 2 rfl _ hh | exact Subs.owned 3 rfl _ hh | exact Subs.owned 4 rfl _ hh | exact Subs.owned 5 rfl _ hh | exact Subs.owned 6 rfl _ hh | exact Subs.owned 7 rfl _ hh | exact Subs.owned 8 rfl _ hh | exact Subs.owned 9 rfl _ hh | exact Subs.owned 10 rfl _ hh | exact Subs.owned 11 rfl _ hh | exact Subs.owned 12 rfl _ hh | exact Subs.owned 13 rfl _ hh | exact Subs.owned 14 rfl _ hh | exact Subs.owned 15 rfl _ hh) (by first | exact Rd.stays (by assumption) _ hh | exact Rd.owned 0 rfl _ hh | exact Rd.owned 1 rfl _ hh | exact Rd.owned 2 rfl _ hh | exact Rd.owned 3 rfl _ hh | exact Rd.owned 4 rfl _ hh | exact Rd.owned 5 rfl _ hh | exact Rd.owned 6 rfl _ hh | exact Rd.owned 7 rfl _ hh | exact Rd.owned 8 rfl _ hh | exact Rd.owned 9 rfl _ hh | exact Rd.owned 10 rfl _ hh | exact Rd.owned 11 rfl _ hh | exact Rd.owned 12 rfl _ hh | exact Rd.owned 13 rfl _ hh | exact Rd.owned 14 rfl _ hh | exact Rd.owned 15 rfl _ hh) (by (try simp only [szM] at *); omega) (by (try simp only [szM] at *); omega))) rfl ?_; rintro ⟨⟨cv2, cs2⟩, sv2⟩ ⟨hov, hov2, hvl⟩; try dsimp only) | (refine G.op (og_callF3 rfl rfl (fun w hh => toPlan_any w (by first | exact Rd.stays (by assumption) _ hh | exact Rd.owned 0 rfl _ hh | exact Rd.owned 1 rfl _ hh | exact Rd.owned 2 rfl _ hh | exact Rd.owned 3 rfl _ hh | exact Rd.owned 4 rfl _ hh | exact Rd.owned 5 rfl _ hh | exact Rd.owned 6 rfl _ hh | exact Rd.owned 7 rfl _ hh | exact Rd.owned 8 rfl _ hh | exact Rd.owned 9 rfl _ hh | exact Rd.owned 10 rfl _ hh | exact Rd.owned 11 rfl _ hh | exact Rd.owned 12 rfl _ hh | exact Rd.owned 13 rfl _ hh | exact Rd.owned 14 rfl _ hh | exact Rd.owned 15 rfl _ hh) (by first | exact Subs.stays (by assumption) _ hh | exact Subs.owned 0 rfl _ hh | exact Subs.owned 1 rfl _ hh | exact Subs.owned 2 rfl _ hh | exact Subs.owned 3 rfl _ hh | exact Subs.owned 4 rfl _ hh | exact Subs.owned 5 rfl _ hh | exact Subs.owned 6 rfl _ hh | exact Subs.owned 7 rfl _ hh | exact Subs.owned 8 rfl _ hh | exact Subs.owned 9 rfl _ hh | exact Subs.owned 10 rfl _ hh | exact Subs.owned 11 rfl _ hh | exact Subs.owned 12 rfl _ hh | exact Subs.owned 13 rfl _ hh | exact Subs.owned 14 rfl _ hh | exact Subs.owned 15 rfl _ hh) (by first | exact Rd.stays (by assumption) _ hh | exact Rd.owned 0 rfl _ hh | exact Rd.owned 1 rfl _ hh | exact Rd.owned 2 rfl _ hh | exact Rd.owned 3 rfl _ hh | exact Rd.owned 4 rfl _ hh | exact Rd.owned 5 rfl _ hh | exact Rd.owned 6 rfl _ hh | exact Rd.owned 7 rfl _ hh | exact Rd.owned 8 rfl _ hh | exact Rd.owned 9 rfl _ hh | exact Rd.owned 10 rfl _ hh | exact Rd.owned 11 rfl _ hh | exact Rd.owned 12 rfl _ hh | exact Rd.owned 13 rfl _ hh | exact Rd.owned 14 rfl _ hh | exact Rd.owned 15 rfl _ hh) (by (try simp only [szM] at *); omega) (by (try simp only [szM] at *); omega))) rfl ?_; rintro ⟨⟨cv2, cs2⟩, sv2⟩ ⟨hov, hov2, hvl⟩; try dsimp only) | (refine G.op (og_callF0 rfl rfl (fun w hh => toPlan_any w (by first | exact Rd.stays (by assumption) _ hh | exact Rd.owned 0 rfl _ hh | exact Rd.owned 1 rfl _ hh | exact Rd.owned 2 rfl _ hh | exact Rd.owned 3 rfl _ hh | exact Rd.owned 4 rfl _ hh | exact Rd.owned 5 rfl _ hh | exact Rd.owned 6 rfl _ hh | exact Rd.owned 7 rfl _ hh | exact Rd.owned 8 rfl _ hh | exact Rd.owned 9 rfl _ hh | exact Rd.owned 10 rfl _ hh | exact Rd.owned 11 rfl _ hh | exact Rd.owned 12 rfl _ hh | exact Rd.owned 13 rfl _ hh | exact Rd.owned 14 rfl _ hh | exact Rd.owned 15 rfl _ hh) (by first | exact Subs.stays (by assumption) _ hh | exact Subs.owned 0 rfl _ hh | exact Subs.owned 1 rfl _ hh | exact Subs.owned 2 rfl _ hh | exact Subs.owned 3 rfl _ hh | exact Subs.owned 4 rfl _ hh | exact Subs.owned 5 rfl _ hh | exact Subs.owned 6 rfl _ hh | exact Subs.owned 7 rfl _ hh | exact Subs.owned 8 rfl _ hh | exact Subs.owned 9 rfl _ hh | exact Subs.owned 10 rfl _ hh | exact Subs.owned 11 rfl _ hh | exact Subs.owned 12 rfl _ hh | exact Subs.owned 13 rfl _ hh | exact Subs.owned 14 rfl _ hh | exact Subs.owned 15 rfl _ hh) (by first | exact Rd.stays (by assumption) _ hh | exact Rd.owned 0 rfl _ hh | exact Rd.owned 1 rfl _ hh | exact Rd.owned 2 rfl _ hh | exact Rd.owned 3 rfl _ hh | exact Rd.owned 4 rfl _ hh | exact Rd.owned 5 rfl _ hh | exact Rd.owned 6 rfl _ hh | exact Rd.owned 7 rfl _ hh | exact Rd.owned 8 rfl _ hh | exact Rd.owned 9 rfl _ hh | exact Rd.owned 10 rfl _ hh | exact Rd.owned 11 rfl _ hh | exact Rd.owned 12 rfl _ hh | exact Rd.owned 13 rfl _ hh | exact Rd.owned 14 rfl _ hh | exact Rd.owned 15 rfl _ hh) (by (try simp only [szM] at *); omega) (by (try simp only [szM] at *); omega))) rfl ?_; rintro ⟨⟨cv2, cs2⟩, sv2⟩ ⟨hov, hov2, hvl⟩; try dsimp only) | (refine G.op (og_callF rfl rfl (fun w hh => toPlan_any w (by first | exact Rd.stays (by assumption) _ hh | exact Rd.owned 0 rfl _ hh | exact Rd.owned 1 rfl _ hh | exact Rd.owned 2 rfl _ hh | exact Rd.owned 3 rfl _ hh | exact Rd.owned 4 rfl _ hh | exact Rd.owned 5 rfl _ hh | exact Rd.owned 6 rfl _ hh | exact Rd.owned 7 rfl _ hh | exact Rd.owned 8 rfl _ hh | exact Rd.owned 9 rfl _ hh | exact Rd.owned 10 rfl _ hh | exact Rd.owned 11 rfl _ hh | exact Rd.owned 12 rfl _ hh | exact Rd.owned 13 rfl _ hh | exact Rd.owned 14 rfl _ hh | exact Rd.owned 15 rfl _ hh) (by first | exact Subs.stays (by assumption) _ hh | exact Subs.owned 0 rfl _ hh | exact Subs.owned 1 rfl _ hh | exact Subs.owned 2 rfl _ hh | exact Subs.owned 3 rfl _ hh | exact Subs.owned 4 rfl _ hh | exact Subs.owned 5 rfl _ hh | exact Subs.owned 6 rfl _ hh | exact Subs.owned 7 rfl _ hh | exact Subs.owned 8 rfl _ hh | exact Subs.owned 9 rfl _ hh | exact Subs.owned 10 rfl _ hh | exact Subs.owned 11 rfl _ hh | exact Subs.owned 12 rfl _ hh | exact Subs.owned 13 rfl _ hh | exact Subs.owned 14 rfl _ hh | exact Subs.owned 15 rfl _ hh) (by first | exact Rd.stays (by assumption) _ hh | exact Rd.owned 0 rfl _ hh | exact Rd.owned 1 rfl _ hh | exact Rd.owned 2 rfl _ hh | exact Rd.owned 3 rfl _ hh | exact Rd.owned 4 rfl _ hh | exact Rd.owned 5 rfl _ hh | exact Rd.owned 6 rfl _ hh | exact Rd.owned 7 rfl _ hh | exact Rd.owned 8 rfl _ hh | exact Rd.owned 9 rfl _ hh | exact Rd.owned 10 rfl _ hh | exact Rd.owned 11 rfl _ hh | exact Rd.owned 12 rfl _ hh | exact Rd.owned 13 rfl _ hh | exact Rd.owned 14 rfl _ hh | exact Rd.owned 15 rfl _ hh) (by (try simp only [szM] at *); omega) (by (try simp only [szM] at *); omega))) rfl ?_; rintro ⟨⟨cv2, cs2⟩, sv2⟩ ⟨hov, hov2, hvl⟩; try dsimp only))
      refine G.op (og_callV rfl rfl (fun w hh => splanText_any w (by first | exact Rd.stays (by assumption) _ hh | exact Rd.owned 0 rfl _ hh | exact Rd.owned 1 rfl _ hh | exact Rd.owned 2 rfl _ hh | exact Rd.owned 3 rfl _ hh | exact Rd.owned 4 rfl _ hh | exact Rd.owned 5 rfl _ hh | exact Rd.owned 6 rfl _ hh | exact Rd.owned 7 rfl _ hh | exact Rd.owned 8 rfl _ hh | exact Rd.owned 9 rfl _ hh | exact Rd.owned 10 rfl _ hh | exact Rd.owned 11 rfl _ hh | exact Rd.owned 12 rfl _ hh | exact Rd.owned 13 rfl _ hh | exact Rd.owned 14 rfl _ hh | exact Rd.owned 15 rfl _ hh) (by first | exact Subs.stays (by assumption) _ hh | exact Subs.owned 0 rfl _ hh | exact Subs.owned 1 rfl _ hh | exact Subs.owned 2 rfl _ hh | exact Subs.owned 3 rfl _ hh | exact Subs.owned 4 rfl _ hh | exact Subs.owned 5 rfl _ hh | exact Subs.owned 6 rfl _ hh | exact Subs.owned 7 rfl _ hh | exact Subs.owned 8 rfl _ hh | exact Subs.owned 9 rfl _ hh | exact Subs.owned 10 rfl _ hh | exact Subs.owned 11 rfl _ hh | exact Subs.owned 12 rfl _ hh | exact Subs.owned 13 rfl _ hh | exact Subs.owned 14 rfl _ hh | exact Subs.owned 15 rfl _ hh) (by first | exact Rd.stays (by assumption) _ hh | exact Rd.owned 0 rfl _ hh | exact Rd.owned 1 rfl _ hh | exact Rd.owned 2 rfl _ hh | exact Rd.owned 3 rfl _ hh | exact Rd.owned 4 rfl _ hh | exact Rd.owned 5 rfl _ hh | exact Rd.owned 6 rfl _ hh | exact Rd.owned 7 rfl _ hh | exact Rd.owned 8 rfl _ hh | exact Rd.owned 9 rfl _ hh | exact Rd.owned 10 rfl _ hh | exact Rd.owned 11 rfl _ hh | exact Rd.owned 12 rfl _ hh | exact Rd.owned 13 rfl _ hh | exact Rd.owned 14 rfl _ hh | exact Rd.owned 15 rfl _ hh))) rfl (fun _ _ => ?_)
      refine G.v (rv_assign rfl) rfl ?_; refine G.done ?_; refine G.thenN ?_; refine G.seq ?_; refine G.region ?_
      (first | refine G.v (rv_loadW 0 rfl rfl rfl) rfl ?_ | refine G.v (rv_loadW 1 rfl rfl rfl) rfl ?_ | refine G.v (rv_loadW 2 rfl rfl rfl) rfl ?_ | refine G.v (rv_loadW 3 rfl rfl rfl) rfl ?_ | refine G.v (rv_loadW 4 rfl rfl rfl) rfl ?_ | refine G.v (rv_loadW 5 rfl rfl rfl) rfl ?_ | refine G.v (rv_loadW 6 rfl rfl rfl) rfl ?_ | refine G.v (rv_loadW 7 rfl rfl rfl) rfl ?_ | refine G.v (rv_loadW 8 rfl rfl rfl) rfl ?_ | refine G.v (rv_loadW 9 rfl rfl rfl) rfl ?_ | refine G.v (rv_loadP 0 rfl rfl (.one (.one .nil))) rfl ?_ | refine G.v (rv_loadP 1 rfl rfl (.one (.one .nil))) rfl ?_ | refine G.v (rv_loadP 2 rfl rfl (.one (.one .nil))) rfl ?_ | refine G.v (rv_loadP 3 rfl rfl (.one (.one .nil))) rfl ?_ | refine G.v (rv_loadP 4 rfl rfl (.one (.one .nil))) rfl ?_ | refine G.v (rv_loadP 5 rfl rfl (.one (.one .nil))) rfl ?_ | refine G.v (rv_loadP 6 rfl rfl (.one (.one .nil))) rfl ?_ | refine G.v (rv_loadP 7 rfl rfl (.one (.one .nil))) rfl ?_ | refine G.v (rv_loadP 8 rfl rfl (.one (.one .nil))) rfl ?_ | refine G.v (rv_loadP 9 rfl rfl (.one (.one .nil))) rfl ?_)
      (first | (refine G.op (og_callF1 rfl rfl (fun w hh => toPlan_any w (by first | exact Rd.stays (by assumption) _ hh | exact Rd.owned 0 rfl _ hh | exact Rd.owned 1 rfl _ hh | exact Rd.owned 2 rfl _ hh | exact Rd.owned 3 rfl _ hh | exact Rd.owned 4 rfl _ hh | exact Rd.owned 5 rfl _ hh | exact Rd.owned 6 rfl _ hh | exact Rd.owned 7 rfl _ hh | exact Rd.owned 8 rfl _ hh | exact Rd.owned 9 rfl _ hh | exact Rd.owned 10 rfl _ hh | exact Rd.owned 11 rfl _ hh | exact Rd.owned 12 rfl _ hh | exact Rd.owned 13 rfl _ hh | exact Rd.owned 14 rfl _ hh | exact Rd.owned 15 rfl _ hh) (by first | exact Subs.stays (by assumption) _ hh | exact Subs.owned 0 rfl _ hh | exact Subs.owned 1 rfl _ hh | exact Subs.owned 2 rfl _ hh | exact Subs.owned 3 rfl _ hh | exact Subs.owned 4 rfl _ hh | exact Subs.owned 5 rfl _ hh | exact Subs.owned 6 rfl _ hh | exact Subs.owned 7 rfl _ hh | exact Subs.owned 8 rfl _ hh | exact Subs.owned 9 rfl _ hh | exact Subs.owned 10 rfl _ hh | exact Subs.owned 11 rfl _ hh | exact Subs.owned 12 rfl _ hh | exact Subs.owned 13 rfl _ hh | exact Subs.owned 14 rfl _ hh | exact Subs.owned 15 rfl _ hh) (by first | exact Rd.stays (by assumption) _ hh | exact Rd.owned 0 rfl _ hh | exact Rd.owned 1 rfl _ hh | exact Rd.owned 2 rfl _ hh | exact Rd.owned 3 rfl _ hh | exact Rd.owned 4 rfl _ hh | exact Rd.owned 5 rfl _ hh | exact Rd.owned 6 rfl _ hh | exact Rd.owned 7 rfl _ hh | exact Rd.owned 8 rfl _ hh | exact Rd.owned 9 rfl _ hh | exact Rd.owned 10 rfl _ hh | exact Rd.owned 11 rfl _ hh | exact Rd.owned 12 rfl _ hh | exact Rd.owned 13 rfl _ hh | exact Rd.owned 14 rfl _ hh | exact Rd.owned 15 rfl _ hh) (by (try simp only [szM] at *); omega) (by (try simp only [szM] at *); omega))) rfl ?_; rintro ⟨⟨cv2, cs2⟩, sv2⟩ ⟨hov, hov2, hvl⟩; try dsimp only) | (refine G.op (og_callF2 rfl rfl (fun w hh => toPlan_any w (by first | exact Rd.stays (by assumption) _ hh | exact Rd.owned 0 rfl _ hh | exact Rd.owned 1 rfl _ hh | exact Rd.owned 2 rfl _ hh | exact Rd.owned 3 rfl _ hh | exact Rd.owned 4 rfl _ hh | exact Rd.owned 5 rfl _ hh | exact Rd.owned 6 rfl _ hh | exact Rd.owned 7 rfl _ hh | exact Rd.owned 8 rfl _ hh | exact Rd.owned 9 rfl _ hh | exact Rd.owned 10 rfl _ hh | exact Rd.owned 11 rfl _ hh | exact Rd.owned 12 rfl _ hh | exact Rd.owned 13 rfl _ hh | exact Rd.owned 14 rfl _ hh | exact Rd.owned 15 rfl _ hh) (by first | exact Subs.stays (by assumption) _ hh | exact Subs.owned 0 rfl _ hh | exact Subs.owned 1 rfl _ hh | exact Subs.owned 2 rfl _ hh | exact Subs.owned 3 rfl _ hh | exact Subs.owned 4 rfl _ hh | exact Subs.owned 5 rfl _ hh | exact Subs.owned 6 rfl _ hh | exact Subs.owned 7 rfl _ hh | exact Subs.owned 8 rfl _ hh | exact Subs.owned 9 rfl _ hh | exact Subs.owned 10 rfl _ hh | exact Subs.owned 11 rfl _ hh | exact Subs.owned 12 rfl _ hh | exact Subs.owned 13 rfl _ hh | exact Subs.owned 14 rfl _ hh | exact Subs.owned 15 rfl _ hh) (by first | exact Rd.stays (by assumption) _ hh | exact Rd.owned 0 rfl _ hh | exact Rd.owned 1 rfl _ hh | exact Rd.owned 2 rfl _ hh | exact Rd.owned 3 rfl _ hh | exact Rd.owned 4 rfl _ hh | exact Rd.owned 5 rfl _ hh | exact Rd.owned 6 rfl _ hh | exact Rd.owned 7 rfl _ hh | exact Rd.owned 8 rfl _ hh | exact Rd.owned 9 rfl _ hh | exact Rd.owned 10 rfl _ hh | exact Rd.owned 11 rfl _ hh | exact Rd.owned 12 rfl _ hh | exact Rd.owned 13 rfl _ hh | exact Rd.owned 14 rfl _ hh | exact Rd.owned 15 rfl _ hh) (by (try simp only [szM] at *); omega) (by (try simp only [szM] at *); omega))) rfl ?_; rintro ⟨⟨cv2, cs2⟩, sv2⟩ ⟨hov, hov2, hvl⟩; try dsimp only) | (refine G.op (og_callF3 rfl rfl (fun w hh => toPlan_any w (by first | exact Rd.stays (by assumption) _ hh | exact Rd.owned 0 rfl _ hh | exact Rd.owned 1 rfl _ hh | exact Rd.owned 2 rfl _ hh | exact Rd.owned 3 rfl _ hh | exact Rd.owned 4 rfl _ hh | exact Rd.owned 5 rfl _ hh | exact Rd.owned 6 rfl _ hh | exact Rd.owned 7 rfl _ hh | exact Rd.owned 8 rfl _ hh | exact Rd.owned 9 rfl _ hh | exact Rd.owned 10 rfl _ hh | exact Rd.owned 11 rfl _ hh | exact Rd.owned 12 rfl _ hh | exact Rd.owned 13 rfl _ hh | exact Rd.owned 14 rfl _ hh | exact Rd.owned 15 rfl _ hh) (by first | exact Subs.stays (by assumption) _ hh | exact Subs.owned 0 rfl _ hh | exact Subs.owned 1 rfl _ hh | exact Subs.owned 2 rfl _ hh | exact Subs.owned 3 rfl _ hh | exact Subs.owned 4 rfl _ hh | exact Subs.owned 5 rfl _ hh | exact Subs.owned 6 rfl _ hh | exact Subs.owned 7 rfl _ hh | exact Subs.owned 8 rfl _ hh | exact Subs.owned 9 rfl _ hh | exact Subs.owned 10 rfl _ hh | exact Subs.owned 11 rfl _ hh | exact Subs.owned 12 rfl _ hh | exact Subs.owned 13 rfl _ hh | exact Subs.owned 14 rfl _ hh | exact Subs.owned 15 rfl _ hh) (by first | exact Rd.stays (by assumption) _ hh | exact Rd.owned 0 rfl _ hh | exact Rd.owned 1 rfl _ hh | exact Rd.owned 2 rfl _ hh | exact Rd.owned 3 rfl _ hh | exact Rd.owned 4 rfl _ hh | exact Rd.owned 5 rfl _ hh | exact Rd.owned 6 rfl _ hh | exact Rd.owned 7 rfl _ hh | exact Rd.owned 8 rfl _ hh | exact Rd.owned 9 rfl _ hh | exact Rd.owned 10 rfl _ hh | exact Rd.owned 11 rfl _ hh | exact Rd.owned 12 rfl _ hh | exact Rd.owned 13 rfl _ hh | exact Rd.owned 14 rfl _ hh | exact Rd.owned 15 rfl _ hh) (by (try simp only [szM] at *); omega) (by (try simp only [szM] at *); omega))) rfl ?_; rintro ⟨⟨cv2, cs2⟩, sv2⟩ ⟨hov, hov2, hvl⟩; try dsimp only) | (refine G.op (og_callF0 rfl rfl (fun w hh => toPlan_any w (by first | exact Rd.stays (by assumption) _ hh | exact Rd.owned 0 rfl _ hh | exact Rd.owned 1 rfl _ hh | exact Rd.owned 2 rfl _ hh | exact Rd.owned 3 rfl _ hh | exact Rd.owned 4 rfl _ hh | exact Rd.owned 5 rfl _ hh | exact Rd.owned 6 rfl _ hh | exact Rd.owned 7 rfl _ hh | exact Rd.owned 8 rfl _ hh | exact Rd.owned 9 rfl _ hh | exact Rd.owned 10 rfl _ hh | exact Rd.owned 11 rfl _ hh | exact Rd.owned 12 rfl _ hh | exact Rd.owned 13 rfl _ hh | exact Rd.owned 14 rfl _ hh | exact Rd.owned 15 rfl _ hh) (by first | exact Subs.stays (by assumption) _ hh | exact Subs.owned 0 rfl _ hh | exact Subs.owned 1 rfl _ hh | exact Subs.owned 2 rfl _ hh | exact Subs.owned 3 rfl _ hh | exact Subs.owned 4 rfl _ hh | exact Subs.owned 5 rfl _ hh | exact Subs.owned 6 rfl _ hh | exact Subs.owned 7 rfl _ hh | exact Subs.owned 8 rfl _ hh | exact Subs.owned 9 rfl _ hh | exact Subs.owned 10 rfl _ hh | exact Subs.owned 11 rfl _ hh | exact Subs.owned 12 rfl _ hh | exact Subs.owned 13 rfl _ hh | exact Subs.owned 14 rfl _ hh | exact Subs.owned 15 rfl _ hh) (by first | exact Rd.stays (by assumption) _ hh | exact Rd.owned 0 rfl _ hh | exact Rd.owned 1 rfl _ hh | exact Rd.owned 2 rfl _ hh | exact Rd.owned 3 rfl _ hh | exact Rd.owned 4 rfl _ hh | exact Rd.owned 5 rfl _ hh | exact Rd.owned 6 rfl _ hh | exact Rd.owned 7 rfl _ hh | exact Rd.owned 8 rfl _ hh | exact Rd.owned 9 rfl _ hh | exact Rd.owned 10 rfl _ hh | exact Rd.owned 11 rfl _ hh | exact Rd.owned 12 rfl _ hh | exact Rd.owned 13 rfl _ hh | exact Rd.owned 14 rfl _ hh | exact Rd.owned 15 rfl _ hh) (by (try simp only [szM] at *); omega) (by (try simp only [szM] at *); omega))) rfl ?_; rintro ⟨⟨cv2, cs2⟩, sv2⟩ ⟨hov, hov2, hvl⟩; try dsimp only) | (refine G.op (og_callF rfl rfl (fun w hh => toPlan_any w (by first | exact Rd.stays (by assumption) _ hh | exact Rd.owned 0 rfl _ hh | exact Rd.owned 1 rfl _ hh | exact Rd.owned 2 rfl _ hh | exact Rd.owned 3 rfl _ hh | exact Rd.owned 4 rfl _ hh | exact Rd.owned 5 rfl _ hh | exact Rd.owned 6 rfl _ hh | exact Rd.owned 7 rfl _ hh | exact Rd.owned 8 rfl _ hh | exact Rd.owned 9 rfl _ hh | exact Rd.owned 10 rfl _ hh | exact Rd.owned 11 rfl _ hh | exact Rd.owned 12 rfl _ hh | exact Rd.owned 13 rfl _ hh | exact Rd.owned 14 rfl _ hh | exact Rd.owned 15 rfl _ hh) (by first | exact Subs.stays (by assumption) _ hh | exact Subs.owned 0 rfl _ hh | exact Subs.owned 1 rfl _ hh | exact Subs.owned 2 rfl _ hh | exact Subs.owned 3 rfl _ hh | exact Subs.owned 4 rfl _ hh | exact Subs.owned 5 rfl _ hh | exact Subs.owned 6 rfl _ hh | exact Subs.owned 7 rfl _ hh | exact Subs.owned 8 rfl _ hh | exact Subs.owned 9 rfl _ hh | exact Subs.owned 10 rfl _ hh | exact Subs.owned 11 rfl _ hh | exact Subs.owned 12 rfl _ hh | exact Subs.owned 13 rfl _ hh | exact Subs.owned 14 rfl _ hh | exact Subs.owned 15 rfl _ hh) (by first | exact Rd.stays (by assumption) _ hh | exact Rd.owned 0 rfl _ hh | exact Rd.owned 1 rfl _ hh | exact Rd.owned 2 rfl _ hh | exact Rd.owned 3 rfl _ hh | exact Rd.owned 4 rfl _ hh | exact Rd.owned 5 rfl _ hh | exact Rd.owned 6 rfl _ hh | exact Rd.owned 7 rfl _ hh | exact Rd.owned 8 rfl _ hh | exact Rd.owned 9 rfl _ hh | exact Rd.owned 10 rfl _ hh | exact Rd.owned 11 rfl _ hh | exact Rd.owned 12 rfl _ hh | exact Rd.owned 13 rfl _ hh | exact Rd.owned 14 rfl _ hh | exact Rd.owned 15 rfl _ hh) (by (try simp only [szM] at *); omega) (by (try simp only [szM] at *); omega))) rfl ?_; rintro ⟨⟨cv2, cs2⟩, sv2⟩ ⟨hov, hov2, hvl⟩; try dsimp only))
      refine G.op (og_alloc) rfl (fun bk5 _ => ?_)
      (first | refine G.op0 (og_st0 rfl rfl rfl rfl rfl (by repeat (first | rfl | refine one_cons (by first | rfl | assumption) ?_)) (.zero (.cons (.cons .nil)))) (fun _ _ => ?_) | refine G.op0 (og_st1 rfl rfl rfl rfl rfl (by repeat (first | rfl | refine one_cons (by first | rfl | assumption) ?_)) (.zero (.cons (.cons .nil)))) (fun _ _ => ?_) | refine G.op0 (og_st2 rfl rfl rfl rfl rfl (by repeat (first | rfl | refine one_cons (by first | rfl | assumption) ?_)) (.zero (.cons (.cons .nil)))) (fun _ _ => ?_) | refine G.op0 (og_st3 rfl rfl rfl rfl rfl (by repeat (first | rfl | refine one_cons (by first | rfl | assumption) ?_)) (.zero (.cons (.cons .nil)))) (fun _ _ => ?_) | refine G.op0 (og_st4 rfl rfl rfl rfl rfl (by repeat (first | rfl | refine one_cons (by first | rfl | assumption) ?_)) (.zero (.cons (.cons .nil)))) (fun _ _ => ?_) | refine G.op0 (og_st5 rfl rfl rfl rfl rfl (by repeat (first | rfl | refine one_cons (by first | rfl | assumption) ?_)) (.zero (.cons (.cons .nil)))) (fun _ _ => ?_) | refine G.op0 (og_st6 rfl rfl rfl rfl rfl (by repeat (first | rfl | refine one_cons (by first | rfl | assumption) ?_)) (.zero (.cons (.cons .nil)))) (fun _ _ => ?_) | refine G.op0 (og_st7 rfl rfl rfl rfl rfl (by repeat (first | rfl | refine one_cons (by first | rfl | assumption) ?_)) (.zero (.cons (.cons .nil)))) (fun _ _ => ?_) | refine G.op0 (og_st8 rfl rfl rfl rfl rfl (by repeat (first | rfl | refine one_cons (by first | rfl | assumption) ?_)) (.zero (.cons (.cons .nil)))) (fun _ _ => ?_) | refine G.op0 (og_st9 rfl rfl rfl rfl rfl (by repeat (first | rfl | refine one_cons (by first | rfl | assumption) ?_)) (.zero (.cons (.cons .nil)))) (fun _ _ => ?_))
      refine G.done ?_; refine G.thenN ?_; refine G.seq ?_; refine G.region ?_
      (first | refine G.v (rv_loadW 0 rfl rfl rfl) rfl ?_ | refine G.v (rv_loadW 1 rfl rfl rfl) rfl ?_ | refine G.v (rv_loadW 2 rfl rfl rfl) rfl ?_ | refine G.v (rv_loadW 3 rfl rfl rfl) rfl ?_ | refine G.v (rv_loadW 4 rfl rfl rfl) rfl ?_ | refine G.v (rv_loadW 5 rfl rfl rfl) rfl ?_ | refine G.v (rv_loadW 6 rfl rfl rfl) rfl ?_ | refine G.v (rv_loadW 7 rfl rfl rfl) rfl ?_ | refine G.v (rv_loadW 8 rfl rfl rfl) rfl ?_ | refine G.v (rv_loadW 9 rfl rfl rfl) rfl ?_ | refine G.v (rv_loadP 0 rfl rfl (.one (.one .nil))) rfl ?_ | refine G.v (rv_loadP 1 rfl rfl (.one (.one .nil))) rfl ?_ | refine G.v (rv_loadP 2 rfl rfl (.one (.one .nil))) rfl ?_ | refine G.v (rv_loadP 3 rfl rfl (.one (.one .nil))) rfl ?_ | refine G.v (rv_loadP 4 rfl rfl (.one (.one .nil))) rfl ?_ | refine G.v (rv_loadP 5 rfl rfl (.one (.one .nil))) rfl ?_ | refine G.v (rv_loadP 6 rfl rfl (.one (.one .nil))) rfl ?_ | refine G.v (rv_loadP 7 rfl rfl (.one (.one .nil))) rfl ?_ | refine G.v (rv_loadP 8 rfl rfl (.one (.one .nil))) rfl ?_ | refine G.v (rv_loadP 9 rfl rfl (.one (.one .nil))) rfl ?_)
      refine G.op (og_callV rfl rfl (fun w hh => planText_any w (ht.stays hh) (by first | exact Rd.stays (by assumption) _ hh | exact Rd.owned 0 rfl _ hh | exact Rd.owned 1 rfl _ hh | exact Rd.owned 2 rfl _ hh | exact Rd.owned 3 rfl _ hh | exact Rd.owned 4 rfl _ hh | exact Rd.owned 5 rfl _ hh | exact Rd.owned 6 rfl _ hh | exact Rd.owned 7 rfl _ hh | exact Rd.owned 8 rfl _ hh | exact Rd.owned 9 rfl _ hh | exact Rd.owned 10 rfl _ hh | exact Rd.owned 11 rfl _ hh | exact Rd.owned 12 rfl _ hh | exact Rd.owned 13 rfl _ hh | exact Rd.owned 14 rfl _ hh | exact Rd.owned 15 rfl _ hh) (by first | exact Subs.stays (by assumption) _ hh | exact Subs.owned 0 rfl _ hh | exact Subs.owned 1 rfl _ hh | exact Subs.owned 2 rfl _ hh | exact Subs.owned 3 rfl _ hh | exact Subs.owned 4 rfl _ hh | exact Subs.owned 5 rfl _ hh | exact Subs.owned 6 rfl _ hh | exact Subs.owned 7 rfl _ hh | exact Subs.owned 8 rfl _ hh | exact Subs.owned 9 rfl _ hh | exact Subs.owned 10 rfl _ hh | exact Subs.owned 11 rfl _ hh | exact Subs.owned 12 rfl _ hh | exact Subs.owned 13 rfl _ hh | exact Subs.owned 14 rfl _ hh | exact Subs.owned 15 rfl _ hh) (by first | exact Rd.stays (by assumption) _ hh | exact Rd.owned 0 rfl _ hh | exact Rd.owned 1 rfl _ hh | exact Rd.owned 2 rfl _ hh | exact Rd.owned 3 rfl _ hh | exact Rd.owned 4 rfl _ hh | exact Rd.owned 5 rfl _ hh | exact Rd.owned 6 rfl _ hh | exact Rd.owned 7 rfl _ hh | exact Rd.owned 8 rfl _ hh | exact Rd.owned 9 rfl _ hh | exact Rd.owned 10 rfl _ hh | exact Rd.owned 11 rfl _ hh | exact Rd.owned 12 rfl _ hh | exact Rd.owned 13 rfl _ hh | exact Rd.owned 14 rfl _ hh | exact Rd.owned 15 rfl _ hh))) rfl (fun _ _ => ?_)
      refine G.v (rv_assign rfl) rfl ?_; refine G.done ?_; refine G.thenN ?_; refine G.seq ?_; refine G.seq ?_; refine G.region ?_; refine G.v (rv_move rfl) rfl ?_; refine G.v (rv_move rfl) rfl ?_; refine G.v (rv_neqS rfl rfl) rfl ?_; refine G.done ?_; refine G.thenN ?_; refine G.cond rfl (fun hc => ?_) (fun hc => ?_)
      · try exact Bool.noConfusion hc
        all_goals
         try replace hc := of_decide_eq_true hc
         try (exfalso; first | contradiction | omega)
         all_goals
          refine G.seq ?_; refine G.region ?_; refine G.v (rv_assign rfl) rfl ?_; refine G.done ?_; refine G.thenN ?_; refine G.ret ?_; refine G.thenR ?_
          first | exact G.retFV rfl rfl rfl | (exfalso; simp_all)
      · try exact Bool.noConfusion hc
        all_goals
         try replace hc := of_decide_eq_false hc
         try (exfalso; first | contradiction | omega)
         all_goals
          refine G.skip ?_; refine G.thenN ?_; refine G.seq ?_; refine G.seq ?_; refine G.drawL [3] ?_
          (first | refine GE.q 0 rfl (by as_aux_lemma => kernel_rfl) rfl (qg_runs (rv_loadW 0 rfl rfl rfl)) rfl ?_ | refine GE.q 0 rfl (by as_aux_lemma => kernel_rfl) rfl (qg_runs (rv_loadW 1 rfl rfl rfl)) rfl ?_ | refine GE.q 0 rfl (by as_aux_lemma => kernel_rfl) rfl (qg_runs (rv_loadW 2 rfl rfl rfl)) rfl ?_ | refine GE.q 0 rfl (by as_aux_lemma => kernel_rfl) rfl (qg_runs (rv_loadW 3 rfl rfl rfl)) rfl ?_ | refine GE.q 0 rfl (by as_aux_lemma => kernel_rfl) rfl (qg_runs (rv_loadW 4 rfl rfl rfl)) rfl ?_ | refine GE.q 0 rfl (by as_aux_lemma => kernel_rfl) rfl (qg_runs (rv_loadW 5 rfl rfl rfl)) rfl ?_ | refine GE.q 0 rfl (by as_aux_lemma => kernel_rfl) rfl (qg_runs (rv_loadW 6 rfl rfl rfl)) rfl ?_ | refine GE.q 0 rfl (by as_aux_lemma => kernel_rfl) rfl (qg_runs (rv_loadW 7 rfl rfl rfl)) rfl ?_ | refine GE.q 0 rfl (by as_aux_lemma => kernel_rfl) rfl (qg_runs (rv_loadW 8 rfl rfl rfl)) rfl ?_ | refine GE.q 0 rfl (by as_aux_lemma => kernel_rfl) rfl (qg_runs (rv_loadW 9 rfl rfl rfl)) rfl ?_ | refine GE.q 0 rfl (by as_aux_lemma => kernel_rfl) rfl (qg_runs (rv_loadP 0 rfl rfl (.one (.one .nil)))) rfl ?_ | refine GE.q 0 rfl (by as_aux_lemma => kernel_rfl) rfl (qg_runs (rv_loadP 1 rfl rfl (.one (.one .nil)))) rfl ?_ | refine GE.q 0 rfl (by as_aux_lemma => kernel_rfl) rfl (qg_runs (rv_loadP 2 rfl rfl (.one (.one .nil)))) rfl ?_ | refine GE.q 0 rfl (by as_aux_lemma => kernel_rfl) rfl (qg_runs (rv_loadP 3 rfl rfl (.one (.one .nil)))) rfl ?_ | refine GE.q 0 rfl (by as_aux_lemma => kernel_rfl) rfl (qg_runs (rv_loadP 4 rfl rfl (.one (.one .nil)))) rfl ?_ | refine GE.q 0 rfl (by as_aux_lemma => kernel_rfl) rfl (qg_runs (rv_loadP 5 rfl rfl (.one (.one .nil)))) rfl ?_ | refine GE.q 0 rfl (by as_aux_lemma => kernel_rfl) rfl (qg_runs (rv_loadP 6 rfl rfl (.one (.one .nil)))) rfl ?_ | refine GE.q 0 rfl (by as_aux_lemma => kernel_rfl) rfl (qg_runs (rv_loadP 7 rfl rfl (.one (.one .nil)))) rfl ?_ | refine GE.q 0 rfl (by as_aux_lemma => kernel_rfl) rfl (qg_runs (rv_loadP 8 rfl rfl (.one (.one .nil)))) rfl ?_ | refine GE.q 0 rfl (by as_aux_lemma => kernel_rfl) rfl (qg_runs (rv_loadP 9 rfl rfl (.one (.one .nil)))) rfl ?_)
          (first | refine GE.ol 1 (by as_aux_lemma => kernel_rfl) rfl rfl (og_runs (rv_loadW 0 rfl rfl rfl)) rfl (fun _ _ h => by first | exact h | exact h.drop 1 | exact h.drop 2 | exact h.drop 3 | exact h.drop 4 | exact h.drop 5 | exact h.drop 6 | exact h.drop 7 | exact h.drop 8 | exact h.drop 9 | exact h.drop 10 | exact h.drop 11 | exact h.drop 12 | exact h.drop 13) (fun _ _ => ?_) | refine GE.ol 1 (by as_aux_lemma => kernel_rfl) rfl rfl (og_runs (rv_loadW 1 rfl rfl rfl)) rfl (fun _ _ h => by first | exact h | exact h.drop 1 | exact h.drop 2 | exact h.drop 3 | exact h.drop 4 | exact h.drop 5 | exact h.drop 6 | exact h.drop 7 | exact h.drop 8 | exact h.drop 9 | exact h.drop 10 | exact h.drop 11 | exact h.drop 12 | exact h.drop 13) (fun _ _ => ?_) | refine GE.ol 1 (by as_aux_lemma => kernel_rfl) rfl rfl (og_runs (rv_loadW 2 rfl rfl rfl)) rfl (fun _ _ h => by first | exact h | exact h.drop 1 | exact h.drop 2 | exact h.drop 3 | exact h.drop 4 | exact h.drop 5 | exact h.drop 6 | exact h.drop 7 | exact h.drop 8 | exact h.drop 9 | exact h.drop 10 | exact h.drop 11 | exact h.drop 12 | exact h.drop 13) (fun _ _ => ?_) | refine GE.ol 1 (by as_aux_lemma => kernel_rfl) rfl rfl (og_runs (rv_loadW 3 rfl rfl rfl)) rfl (fun _ _ h => by first | exact h | exact h.drop 1 | exact h.drop 2 | exact h.drop 3 | exact h.drop 4 | exact h.drop 5 | exact h.drop 6 | exact h.drop 7 | exact h.drop 8 | exact h.drop 9 | exact h.drop 10 | exact h.drop 11 | exact h.drop 12 | exact h.drop 13) (fun _ _ => ?_) | refine GE.ol 1 (by as_aux_lemma => kernel_rfl) rfl rfl (og_runs (rv_loadW 4 rfl rfl rfl)) rfl (fun _ _ h => by first | exact h | exact h.drop 1 | exact h.drop 2 | exact h.drop 3 | exact h.drop 4 | exact h.drop 5 | exact h.drop 6 | exact h.drop 7 | exact h.drop 8 | exact h.drop 9 | exact h.drop 10 | exact h.drop 11 | exact h.drop 12 | exact h.drop 13) (fun _ _ => ?_) | refine GE.ol 1 (by as_aux_lemma => kernel_rfl) rfl rfl (og_runs (rv_loadW 5 rfl rfl rfl)) rfl (fun _ _ h => by first | exact h | exact h.drop 1 | exact h.drop 2 | exact h.drop 3 | exact h.drop 4 | exact h.drop 5 | exact h.drop 6 | exact h.drop 7 | exact h.drop 8 | exact h.drop 9 | exact h.drop 10 | exact h.drop 11 | exact h.drop 12 | exact h.drop 13) (fun _ _ => ?_) | refine GE.ol 1 (by as_aux_lemma => kernel_rfl) rfl rfl (og_runs (rv_loadW 6 rfl rfl rfl)) rfl (fun _ _ h => by first | exact h | exact h.drop 1 | exact h.drop 2 | exact h.drop 3 | exact h.drop 4 | exact h.drop 5 | exact h.drop 6 | exact h.drop 7 | exact h.drop 8 | exact h.drop 9 | exact h.drop 10 | exact h.drop 11 | exact h.drop 12 | exact h.drop 13) (fun _ _ => ?_) | refine GE.ol 1 (by as_aux_lemma => kernel_rfl) rfl rfl (og_runs (rv_loadW 7 rfl rfl rfl)) rfl (fun _ _ h => by first | exact h | exact h.drop 1 | exact h.drop 2 | exact h.drop 3 | exact h.drop 4 | exact h.drop 5 | exact h.drop 6 | exact h.drop 7 | exact h.drop 8 | exact h.drop 9 | exact h.drop 10 | exact h.drop 11 | exact h.drop 12 | exact h.drop 13) (fun _ _ => ?_) | refine GE.ol 1 (by as_aux_lemma => kernel_rfl) rfl rfl (og_runs (rv_loadW 8 rfl rfl rfl)) rfl (fun _ _ h => by first | exact h | exact h.drop 1 | exact h.drop 2 | exact h.drop 3 | exact h.drop 4 | exact h.drop 5 | exact h.drop 6 | exact h.drop 7 | exact h.drop 8 | exact h.drop 9 | exact h.drop 10 | exact h.drop 11 | exact h.drop 12 | exact h.drop 13) (fun _ _ => ?_) | refine GE.ol 1 (by as_aux_lemma => kernel_rfl) rfl rfl (og_runs (rv_loadW 9 rfl rfl rfl)) rfl (fun _ _ h => by first | exact h | exact h.drop 1 | exact h.drop 2 | exact h.drop 3 | exact h.drop 4 | exact h.drop 5 | exact h.drop 6 | exact h.drop 7 | exact h.drop 8 | exact h.drop 9 | exact h.drop 10 | exact h.drop 11 | exact h.drop 12 | exact h.drop 13) (fun _ _ => ?_) | refine GE.ol 1 (by as_aux_lemma => kernel_rfl) rfl rfl (og_runs (rv_loadP 0 rfl rfl (.one (.one .nil)))) rfl (fun _ _ h => by first | exact h | exact h.drop 1 | exact h.drop 2 | exact h.drop 3 | exact h.drop 4 | exact h.drop 5 | exact h.drop 6 | exact h.drop 7 | exact h.drop 8 | exact h.drop 9 | exact h.drop 10 | exact h.drop 11 | exact h.drop 12 | exact h.drop 13) (fun _ _ => ?_) | refine GE.ol 1 (by as_aux_lemma => kernel_rfl) rfl rfl (og_runs (rv_loadP 1 rfl rfl (.one (.one .nil)))) rfl (fun _ _ h => by first | exact h | exact h.drop 1 | exact h.drop 2 | exact h.drop 3 | exact h.drop 4 | exact h.drop 5 | exact h.drop 6 | exact h.drop 7 | exact h.drop 8 | exact h.drop 9 | exact h.drop 10 | exact h.drop 11 | exact h.drop 12 | exact h.drop 13) (fun _ _ => ?_) | refine GE.ol 1 (by as_aux_lemma => kernel_rfl) rfl rfl (og_runs (rv_loadP 2 rfl rfl (.one (.one .nil)))) rfl (fun _ _ h => by first | exact h | exact h.drop 1 | exact h.drop 2 | exact h.drop 3 | exact h.drop 4 | exact h.drop 5 | exact h.drop 6 | exact h.drop 7 | exact h.drop 8 | exact h.drop 9 | exact h.drop 10 | exact h.drop 11 | exact h.drop 12 | exact h.drop 13) (fun _ _ => ?_) | refine GE.ol 1 (by as_aux_lemma => kernel_rfl) rfl rfl (og_runs (rv_loadP 3 rfl rfl (.one (.one .nil)))) rfl (fun _ _ h => by first | exact h | exact h.drop 1 | exact h.drop 2 | exact h.drop 3 | exact h.drop 4 | exact h.drop 5 | exact h.drop 6 | exact h.drop 7 | exact h.drop 8 | exact h.drop 9 | exact h.drop 10 | exact h.drop 11 | exact h.drop 12 | exact h.drop 13) (fun _ _ => ?_) | refine GE.ol 1 (by as_aux_lemma => kernel_rfl) rfl rfl (og_runs (rv_loadP 4 rfl rfl (.one (.one .nil)))) rfl (fun _ _ h => by first | exact h | exact h.drop 1 | exact h.drop 2 | exact h.drop 3 | exact h.drop 4 | exact h.drop 5 | exact h.drop 6 | exact h.drop 7 | exact h.drop 8 | exact h.drop 9 | exact h.drop 10 | exact h.drop 11 | exact h.drop 12 | exact h.drop 13) (fun _ _ => ?_) | refine GE.ol 1 (by as_aux_lemma => kernel_rfl) rfl rfl (og_runs (rv_loadP 5 rfl rfl (.one (.one .nil)))) rfl (fun _ _ h => by first | exact h | exact h.drop 1 | exact h.drop 2 | exact h.drop 3 | exact h.drop 4 | exact h.drop 5 | exact h.drop 6 | exact h.drop 7 | exact h.drop 8 | exact h.drop 9 | exact h.drop 10 | exact h.drop 11 | exact h.drop 12 | exact h.drop 13) (fun _ _ => ?_) | refine GE.ol 1 (by as_aux_lemma => kernel_rfl) rfl rfl (og_runs (rv_loadP 6 rfl rfl (.one (.one .nil)))) rfl (fun _ _ h => by first | exact h | exact h.drop 1 | exact h.drop 2 | exact h.drop 3 | exact h.drop 4 | exact h.drop 5 | exact h.drop 6 | exact h.drop 7 | exact h.drop 8 | exact h.drop 9 | exact h.drop 10 | exact h.drop 11 | exact h.drop 12 | exact h.drop 13) (fun _ _ => ?_) | refine GE.ol 1 (by as_aux_lemma => kernel_rfl) rfl rfl (og_runs (rv_loadP 7 rfl rfl (.one (.one .nil)))) rfl (fun _ _ h => by first | exact h | exact h.drop 1 | exact h.drop 2 | exact h.drop 3 | exact h.drop 4 | exact h.drop 5 | exact h.drop 6 | exact h.drop 7 | exact h.drop 8 | exact h.drop 9 | exact h.drop 10 | exact h.drop 11 | exact h.drop 12 | exact h.drop 13) (fun _ _ => ?_) | refine GE.ol 1 (by as_aux_lemma => kernel_rfl) rfl rfl (og_runs (rv_loadP 8 rfl rfl (.one (.one .nil)))) rfl (fun _ _ h => by first | exact h | exact h.drop 1 | exact h.drop 2 | exact h.drop 3 | exact h.drop 4 | exact h.drop 5 | exact h.drop 6 | exact h.drop 7 | exact h.drop 8 | exact h.drop 9 | exact h.drop 10 | exact h.drop 11 | exact h.drop 12 | exact h.drop 13) (fun _ _ => ?_) | refine GE.ol 1 (by as_aux_lemma => kernel_rfl) rfl rfl (og_runs (rv_loadP 9 rfl rfl (.one (.one .nil)))) rfl (fun _ _ h => by first | exact h | exact h.drop 1 | exact h.drop 2 | exact h.drop 3 | exact h.drop 4 | exact h.drop 5 | exact h.drop 6 | exact h.drop 7 | exact h.drop 8 | exact h.drop 9 | exact h.drop 10 | exact h.drop 11 | exact h.drop 12 | exact h.drop 13) (fun _ _ => ?_))
          (first | (refine GE.ol 2 (by as_aux_lemma => kernel_rfl) rfl rfl (og_callF1 rfl rfl (fun w hh => toPlan_any w (by first | exact Rd.stays (by assumption) _ hh | exact Rd.owned 0 rfl _ hh | exact Rd.owned 1 rfl _ hh | exact Rd.owned 2 rfl _ hh | exact Rd.owned 3 rfl _ hh | exact Rd.owned 4 rfl _ hh | exact Rd.owned 5 rfl _ hh | exact Rd.owned 6 rfl _ hh | exact Rd.owned 7 rfl _ hh | exact Rd.owned 8 rfl _ hh | exact Rd.owned 9 rfl _ hh | exact Rd.owned 10 rfl _ hh | exact Rd.owned 11 rfl _ hh | exact Rd.owned 12 rfl _ hh | exact Rd.owned 13 rfl _ hh | exact Rd.owned 14 rfl _ hh | exact Rd.owned 15 rfl _ hh) (by first | exact Subs.stays (by assumption) _ hh | exact Subs.owned 0 rfl _ hh | exact Subs.owned 1 rfl _ hh | exact Subs.owned 2 rfl _ hh | exact Subs.owned 3 rfl _ hh | exact Subs.owned 4 rfl _ hh | exact Subs.owned 5 rfl _ hh | exact Subs.owned 6 rfl _ hh | exact Subs.owned 7 rfl _ hh | exact Subs.owned 8 rfl _ hh | exact Subs.owned 9 rfl _ hh | exact Subs.owned 10 rfl _ hh | exact Subs.owned 11 rfl _ hh | exact Subs.owned 12 rfl _ hh | exact Subs.owned 13 rfl _ hh | exact Subs.owned 14 rfl _ hh | exact Subs.owned 15 rfl _ hh) (by first | exact Rd.stays (by assumption) _ hh | exact Rd.owned 0 rfl _ hh | exact Rd.owned 1 rfl _ hh | exact Rd.owned 2 rfl _ hh | exact Rd.owned 3 rfl _ hh | exact Rd.owned 4 rfl _ hh | exact Rd.owned 5 rfl _ hh | exact Rd.owned 6 rfl _ hh | exact Rd.owned 7 rfl _ hh | exact Rd.owned 8 rfl _ hh | exact Rd.owned 9 rfl _ hh | exact Rd.owned 10 rfl _ hh | exact Rd.owned 11 rfl _ hh | exact Rd.owned 12 rfl _ hh | exact Rd.owned 13 rfl _ hh | exact Rd.owned 14 rfl _ hh | exact Rd.owned 15 rfl _ hh) (by (try simp only [szM] at *); omega) (by (try simp only [szM] at *); omega))) rfl (fun _ _ h => by first | exact h | exact h.drop 1 | exact h.drop 2 | exact h.drop 3 | exact h.drop 4 | exact h.drop 5 | exact h.drop 6 | exact h.drop 7 | exact h.drop 8 | exact h.drop 9 | exact h.drop 10 | exact h.drop 11 | exact h.drop 12 | exact h.drop 13) ?_; rintro ⟨⟨cv2, cs2⟩, sv2⟩ ⟨hov, hov2, hvl⟩; try dsimp only) | (refine GE.ol 2 (by as_aux_lemma => kernel_rfl) rfl rfl (og_callF2 rfl rfl (fun w hh => toPlan_any w (by first | exact Rd.stays (by assumption) _ hh | exact Rd.owned 0 rfl _ hh | exact Rd.owned 1 rfl _ hh | exact Rd.owned 2 rfl _ hh | exact Rd.owned 3 rfl _ hh | exact Rd.owned 4 rfl _ hh | exact Rd.owned 5 rfl _ hh | exact Rd.owned 6 rfl _ hh | exact Rd.owned 7 rfl _ hh | exact Rd.owned 8 rfl _ hh | exact Rd.owned 9 rfl _ hh | exact Rd.owned 10 rfl _ hh | exact Rd.owned 11 rfl _ hh | exact Rd.owned 12 rfl _ hh | exact Rd.owned 13 rfl _ hh | exact Rd.owned 14 rfl _ hh | exact Rd.owned 15 rfl _ hh) (by first | exact Subs.stays (by assumption) _ hh | exact Subs.owned 0 rfl _ hh | exact Subs.owned 1 rfl _ hh | exact Subs.owned 2 rfl _ hh | exact Subs.owned 3 rfl _ hh | exact Subs.owned 4 rfl _ hh | exact Subs.owned 5 rfl _ hh | exact Subs.owned 6 rfl _ hh | exact Subs.owned 7 rfl _ hh | exact Subs.owned 8 rfl _ hh | exact Subs.owned 9 rfl _ hh | exact Subs.owned 10 rfl _ hh | exact Subs.owned 11 rfl _ hh | exact Subs.owned 12 rfl _ hh | exact Subs.owned 13 rfl _ hh | exact Subs.owned 14 rfl _ hh | exact Subs.owned 15 rfl _ hh) (by first | exact Rd.stays (by assumption) _ hh | exact Rd.owned 0 rfl _ hh | exact Rd.owned 1 rfl _ hh | exact Rd.owned 2 rfl _ hh | exact Rd.owned 3 rfl _ hh | exact Rd.owned 4 rfl _ hh | exact Rd.owned 5 rfl _ hh | exact Rd.owned 6 rfl _ hh | exact Rd.owned 7 rfl _ hh | exact Rd.owned 8 rfl _ hh | exact Rd.owned 9 rfl _ hh | exact Rd.owned 10 rfl _ hh | exact Rd.owned 11 rfl _ hh | exact Rd.owned 12 rfl _ hh | exact Rd.owned 13 rfl _ hh | exact Rd.owned 14 rfl _ hh | exact Rd.owned 15 rfl _ hh) (by (try simp only [szM] at *); omega) (by (try simp only [szM] at *); omega))) rfl (fun _ _ h => by first | exact h | exact h.drop 1 | exact h.drop 2 | exact h.drop 3 | exact h.drop 4 | exact h.drop 5 | exact h.drop 6 | exact h.drop 7 | exact h.drop 8 | exact h.drop 9 | exact h.drop 10 | exact h.drop 11 | exact h.drop 12 | exact h.drop 13) ?_; rintro ⟨⟨cv2, cs2⟩, sv2⟩ ⟨hov, hov2, hvl⟩; try dsimp only) | (refine GE.ol 2 (by as_aux_lemma => kernel_rfl) rfl rfl (og_callF3 rfl rfl (fun w hh => toPlan_any w (by first | exact Rd.stays (by assumption) _ hh | exact Rd.owned 0 rfl _ hh | exact Rd.owned 1 rfl _ hh | exact Rd.owned 2 rfl _ hh | exact Rd.owned 3 rfl _ hh | exact Rd.owned 4 rfl _ hh | exact Rd.owned 5 rfl _ hh | exact Rd.owned 6 rfl _ hh | exact Rd.owned 7 rfl _ hh | exact Rd.owned 8 rfl _ hh | exact Rd.owned 9 rfl _ hh | exact Rd.owned 10 rfl _ hh | exact Rd.owned 11 rfl _ hh | exact Rd.owned 12 rfl _ hh | exact Rd.owned 13 rfl _ hh | exact Rd.owned 14 rfl _ hh | exact Rd.owned 15 rfl _ hh) (by first | exact Subs.stays (by assumption) _ hh | exact Subs.owned 0 rfl _ hh | exact Subs.owned 1 rfl _ hh | exact Subs.owned 2 rfl _ hh | exact Subs.owned 3 rfl _ hh | exact Subs.owned 4 rfl _ hh | exact Subs.owned 5 rfl _ hh | exact Subs.owned 6 rfl _ hh | exact Subs.owned 7 rfl _ hh | exact Subs.owned 8 rfl _ hh | exact Subs.owned 9 rfl _ hh | exact Subs.owned 10 rfl _ hh | exact Subs.owned 11 rfl _ hh | exact Subs.owned 12 rfl _ hh | exact Subs.owned 13 rfl _ hh | exact Subs.owned 14 rfl _ hh | exact Subs.owned 15 rfl _ hh) (by first | exact Rd.stays (by assumption) _ hh | exact Rd.owned 0 rfl _ hh | exact Rd.owned 1 rfl _ hh | exact Rd.owned 2 rfl _ hh | exact Rd.owned 3 rfl _ hh | exact Rd.owned 4 rfl _ hh | exact Rd.owned 5 rfl _ hh | exact Rd.owned 6 rfl _ hh | exact Rd.owned 7 rfl _ hh | exact Rd.owned 8 rfl _ hh | exact Rd.owned 9 rfl _ hh | exact Rd.owned 10 rfl _ hh | exact Rd.owned 11 rfl _ hh | exact Rd.owned 12 rfl _ hh | exact Rd.owned 13 rfl _ hh | exact Rd.owned 14 rfl _ hh | exact Rd.owned 15 rfl _ hh) (by (try simp only [szM] at *); omega) (by (try simp only [szM] at *); omega))) rfl (fun _ _ h => by first | exact h | exact h.drop 1 | exact h.drop 2 | exact h.drop 3 | exact h.drop 4 | exact h.drop 5 | exact h.drop 6 | exact h.drop 7 | exact h.drop 8 | exact h.drop 9 | exact h.drop 10 | exact h.drop 11 | exact h.drop 12 | exact h.drop 13) ?_; rintro ⟨⟨cv2, cs2⟩, sv2⟩ ⟨hov, hov2, hvl⟩; try dsimp only) | (refine GE.ol 2 (by as_aux_lemma => kernel_rfl) rfl rfl (og_callF0 rfl rfl (fun w hh => toPlan_any w (by first | exact Rd.stays (by assumption) _ hh | exact Rd.owned 0 rfl _ hh | exact Rd.owned 1 rfl _ hh | exact Rd.owned 2 rfl _ hh | exact Rd.owned 3 rfl _ hh | exact Rd.owned 4 rfl _ hh | exact Rd.owned 5 rfl _ hh | exact Rd.owned 6 rfl _ hh | exact Rd.owned 7 rfl _ hh | exact Rd.owned 8 rfl _ hh | exact Rd.owned 9 rfl _ hh | exact Rd.owned 10 rfl _ hh | exact Rd.owned 11 rfl _ hh | exact Rd.owned 12 rfl _ hh | exact Rd.owned 13 rfl _ hh | exact Rd.owned 14 rfl _ hh | exact Rd.owned 15 rfl _ hh) (by first | exact Subs.stays (by assumption) _ hh | exact Subs.owned 0 rfl _ hh | exact Subs.owned 1 rfl _ hh | exact Subs.owned 2 rfl _ hh | exact Subs.owned 3 rfl _ hh | exact Subs.owned 4 rfl _ hh | exact Subs.owned 5 rfl _ hh | exact Subs.owned 6 rfl _ hh | exact Subs.owned 7 rfl _ hh | exact Subs.owned 8 rfl _ hh | exact Subs.owned 9 rfl _ hh | exact Subs.owned 10 rfl _ hh | exact Subs.owned 11 rfl _ hh | exact Subs.owned 12 rfl _ hh | exact Subs.owned 13 rfl _ hh | exact Subs.owned 14 rfl _ hh | exact Subs.owned 15 rfl _ hh) (by first | exact Rd.stays (by assumption) _ hh | exact Rd.owned 0 rfl _ hh | exact Rd.owned 1 rfl _ hh | exact Rd.owned 2 rfl _ hh | exact Rd.owned 3 rfl _ hh | exact Rd.owned 4 rfl _ hh | exact Rd.owned 5 rfl _ hh | exact Rd.owned 6 rfl _ hh | exact Rd.owned 7 rfl _ hh | exact Rd.owned 8 rfl _ hh | exact Rd.owned 9 rfl _ hh | exact Rd.owned 10 rfl _ hh | exact Rd.owned 11 rfl _ hh | exact Rd.owned 12 rfl _ hh | exact Rd.owned 13 rfl _ hh | exact Rd.owned 14 rfl _ hh | exact Rd.owned 15 rfl _ hh) (by (try simp only [szM] at *); omega) (by (try simp only [szM] at *); omega))) rfl (fun _ _ h => by first | exact h | exact h.drop 1 | exact h.drop 2 | exact h.drop 3 | exact h.drop 4 | exact h.drop 5 | exact h.drop 6 | exact h.drop 7 | exact h.drop 8 | exact h.drop 9 | exact h.drop 10 | exact h.drop 11 | exact h.drop 12 | exact h.drop 13) ?_; rintro ⟨⟨cv2, cs2⟩, sv2⟩ ⟨hov, hov2, hvl⟩; try dsimp only) | (refine GE.ol 2 (by as_aux_lemma => kernel_rfl) rfl rfl (og_callF rfl rfl (fun w hh => toPlan_any w (by first | exact Rd.stays (by assumption) _ hh | exact Rd.owned 0 rfl _ hh | exact Rd.owned 1 rfl _ hh | exact Rd.owned 2 rfl _ hh | exact Rd.owned 3 rfl _ hh | exact Rd.owned 4 rfl _ hh | exact Rd.owned 5 rfl _ hh | exact Rd.owned 6 rfl _ hh | exact Rd.owned 7 rfl _ hh | exact Rd.owned 8 rfl _ hh | exact Rd.owned 9 rfl _ hh | exact Rd.owned 10 rfl _ hh | exact Rd.owned 11 rfl _ hh | exact Rd.owned 12 rfl _ hh | exact Rd.owned 13 rfl _ hh | exact Rd.owned 14 rfl _ hh | exact Rd.owned 15 rfl _ hh) (by first | exact Subs.stays (by assumption) _ hh | exact Subs.owned 0 rfl _ hh | exact Subs.owned 1 rfl _ hh | exact Subs.owned 2 rfl _ hh | exact Subs.owned 3 rfl _ hh | exact Subs.owned 4 rfl _ hh | exact Subs.owned 5 rfl _ hh | exact Subs.owned 6 rfl _ hh | exact Subs.owned 7 rfl _ hh | exact Subs.owned 8 rfl _ hh | exact Subs.owned 9 rfl _ hh | exact Subs.owned 10 rfl _ hh | exact Subs.owned 11 rfl _ hh | exact Subs.owned 12 rfl _ hh | exact Subs.owned 13 rfl _ hh | exact Subs.owned 14 rfl _ hh | exact Subs.owned 15 rfl _ hh) (by first | exact Rd.stays (by assumption) _ hh | exact Rd.owned 0 rfl _ hh | exact Rd.owned 1 rfl _ hh | exact Rd.owned 2 rfl _ hh | exact Rd.owned 3 rfl _ hh | exact Rd.owned 4 rfl _ hh | exact Rd.owned 5 rfl _ hh | exact Rd.owned 6 rfl _ hh | exact Rd.owned 7 rfl _ hh | exact Rd.owned 8 rfl _ hh | exact Rd.owned 9 rfl _ hh | exact Rd.owned 10 rfl _ hh | exact Rd.owned 11 rfl _ hh | exact Rd.owned 12 rfl _ hh | exact Rd.owned 13 rfl _ hh | exact Rd.owned 14 rfl _ hh | exact Rd.owned 15 rfl _ hh) (by (try simp only [szM] at *); omega) (by (try simp only [szM] at *); omega))) rfl (fun _ _ h => by first | exact h | exact h.drop 1 | exact h.drop 2 | exact h.drop 3 | exact h.drop 4 | exact h.drop 5 | exact h.drop 6 | exact h.drop 7 | exact h.drop 8 | exact h.drop 9 | exact h.drop 10 | exact h.drop 11 | exact h.drop 12 | exact h.drop 13) ?_; rintro ⟨⟨cv2, cs2⟩, sv2⟩ ⟨hov, hov2, hvl⟩; try dsimp only))
          refine GE.t 3 (by as_aux_lemma => kernel_rfl) rfl rfl rfl (og_callV rfl rfl (fun w hh => eqPlan_any w (by first | exact Rd.stays (by assumption) _ hh | exact Rd.owned 0 rfl _ hh | exact Rd.owned 1 rfl _ hh | exact Rd.owned 2 rfl _ hh | exact Rd.owned 3 rfl _ hh | exact Rd.owned 4 rfl _ hh | exact Rd.owned 5 rfl _ hh | exact Rd.owned 6 rfl _ hh | exact Rd.owned 7 rfl _ hh | exact Rd.owned 8 rfl _ hh | exact Rd.owned 9 rfl _ hh | exact Rd.owned 10 rfl _ hh | exact Rd.owned 11 rfl _ hh | exact Rd.owned 12 rfl _ hh | exact Rd.owned 13 rfl _ hh | exact Rd.owned 14 rfl _ hh | exact Rd.owned 15 rfl _ hh) (by first | exact Subs.stays (by assumption) _ hh | exact Subs.owned 0 rfl _ hh | exact Subs.owned 1 rfl _ hh | exact Subs.owned 2 rfl _ hh | exact Subs.owned 3 rfl _ hh | exact Subs.owned 4 rfl _ hh | exact Subs.owned 5 rfl _ hh | exact Subs.owned 6 rfl _ hh | exact Subs.owned 7 rfl _ hh | exact Subs.owned 8 rfl _ hh | exact Subs.owned 9 rfl _ hh | exact Subs.owned 10 rfl _ hh | exact Subs.owned 11 rfl _ hh | exact Subs.owned 12 rfl _ hh | exact Subs.owned 13 rfl _ hh | exact Subs.owned 14 rfl _ hh | exact Subs.owned 15 rfl _ hh) (by first | exact Rd.stays (by assumption) _ hh | exact Rd.owned 0 rfl _ hh | exact Rd.owned 1 rfl _ hh | exact Rd.owned 2 rfl _ hh | exact Rd.owned 3 rfl _ hh | exact Rd.owned 4 rfl _ hh | exact Rd.owned 5 rfl _ hh | exact Rd.owned 6 rfl _ hh | exact Rd.owned 7 rfl _ hh | exact Rd.owned 8 rfl _ hh | exact Rd.owned 9 rfl _ hh | exact Rd.owned 10 rfl _ hh | exact Rd.owned 11 rfl _ hh | exact Rd.owned 12 rfl _ hh | exact Rd.owned 13 rfl _ hh | exact Rd.owned 14 rfl _ hh | exact Rd.owned 15 rfl _ hh) (by first | exact Rd.stays (by assumption) _ hh | exact Rd.owned 0 rfl _ hh | exact Rd.owned 1 rfl _ hh | exact Rd.owned 2 rfl _ hh | exact Rd.owned 3 rfl _ hh | exact Rd.owned 4 rfl _ hh | exact Rd.owned 5 rfl _ hh | exact Rd.owned 6 rfl _ hh | exact Rd.owned 7 rfl _ hh | exact Rd.owned 8 rfl _ hh | exact Rd.owned 9 rfl _ hh | exact Rd.owned 10 rfl _ hh | exact Rd.owned 11 rfl _ hh | exact Rd.owned 12 rfl _ hh | exact Rd.owned 13 rfl _ hh | exact Rd.owned 14 rfl _ hh | exact Rd.owned 15 rfl _ hh) (by first | exact Subs.stays (by assumption) _ hh | exact Subs.owned 0 rfl _ hh | exact Subs.owned 1 rfl _ hh | exact Subs.owned 2 rfl _ hh | exact Subs.owned 3 rfl _ hh | exact Subs.owned 4 rfl _ hh | exact Subs.owned 5 rfl _ hh | exact Subs.owned 6 rfl _ hh | exact Subs.owned 7 rfl _ hh | exact Subs.owned 8 rfl _ hh | exact Subs.owned 9 rfl _ hh | exact Subs.owned 10 rfl _ hh | exact Subs.owned 11 rfl _ hh | exact Subs.owned 12 rfl _ hh | exact Subs.owned 13 rfl _ hh | exact Subs.owned 14 rfl _ hh | exact Subs.owned 15 rfl _ hh) (by first | exact Rd.stays (by assumption) _ hh | exact Rd.owned 0 rfl _ hh | exact Rd.owned 1 rfl _ hh | exact Rd.owned 2 rfl _ hh | exact Rd.owned 3 rfl _ hh | exact Rd.owned 4 rfl _ hh | exact Rd.owned 5 rfl _ hh | exact Rd.owned 6 rfl _ hh | exact Rd.owned 7 rfl _ hh | exact Rd.owned 8 rfl _ hh | exact Rd.owned 9 rfl _ hh | exact Rd.owned 10 rfl _ hh | exact Rd.owned 11 rfl _ hh | exact Rd.owned 12 rfl _ hh | exact Rd.owned 13 rfl _ hh | exact Rd.owned 14 rfl _ hh | exact Rd.owned 15 rfl _ hh))) rfl (fun _ _ => ?_)
          refine GE.ol 4 (by as_aux_lemma => kernel_rfl) rfl rfl (og_runs (rv_not rfl)) rfl (fun _ _ h => by first | exact h | exact h.drop 1 | exact h.drop 2 | exact h.drop 3 | exact h.drop 4 | exact h.drop 5 | exact h.drop 6 | exact h.drop 7 | exact h.drop 8 | exact h.drop 9 | exact h.drop 10 | exact h.drop 11 | exact h.drop 12 | exact h.drop 13) (fun _ _ => ?_); refine GE.done (by as_aux_lemma => kernel_rfl) ?_; refine G.thenN ?_; refine G.cond rfl (fun hc => ?_) (fun hc => ?_)
          · try exact Bool.noConfusion hc
            all_goals
             try replace hc := of_decide_eq_true hc
             try (exfalso; first | contradiction | omega)
             all_goals
              refine G.seq ?_; refine G.region ?_; refine G.v (rv_assign rfl) rfl ?_; refine G.done ?_; refine G.thenN ?_; refine G.ret ?_; refine G.thenR ?_
              first | exact G.retFV rfl rfl rfl | (exfalso; simp_all)
          · try exact Bool.noConfusion hc
            all_goals
             try replace hc := of_decide_eq_false hc
             try (exfalso; first | contradiction | omega)
             all_goals
              refine G.skip ?_; refine G.thenN ?_; refine G.seq ?_; refine G.region ?_; refine G.v (rv_assign rfl) rfl ?_; refine G.done ?_; refine G.thenN ?_; refine G.ret ?_
              first | exact G.retFV rfl rfl rfl | (exfalso; simp_all)
end Go.Proofs.YtnfokjlplbbbeaaDoor

/-
  The arguments of a law, opened: what can be read as data reads as lists of cells.
-/
namespace Go.Proofs.YtnfokjlplbbbeaaDoor
open Go.RowKit Go.ChangeShapes Go.WideShapes Go.Deep

section
variable {H : Type} {enc : TypeId × Value → H} {P : Program} {w : World} {base : Nat} {spare : Nat → Bool} {held : Bool}

/-- The cells of a struct whose fields have one cell each. -/
theorem struct_cells {t : TypeId} {fs : Array Field} {fuel : Nat} {cs : List Value} {x : DataW H × List MemPlace} (hs : P.underlying t = some (.struct fs)) (hone : oneCellFields P fs = true) (hC : P.cellsOf t = fs.size) (h : DataW.trod enc P w base spare held fuel t cs = some x) :
    cs.length = fs.size ∧ ∀ (i : Nat) (f : Field), fs[i]? = some f → ∃ v y n, cs[i]? = some v ∧ DataW.trod enc P w base spare held n f.type [v] = some y := by
  obtain ⟨xs, n, _, _, hl, hxl, hg⟩ := DataW.trod_struct hs h
  rw [hC] at hl
  refine ⟨hl, fun i f hf => ?_⟩
  obtain ⟨ho, hk⟩ := hone_of hone i f hf
  have hi : i < fs.size := (Array.getElem?_eq_some_iff.1 hf).1
  have h1 := hg i f hf
  rw [ho, hk] at h1
  have hci : cs[i]? = some (cs[i]'(by omega)) := List.getElem?_eq_getElem (by omega)
  have hd : (cs.drop i).take 1 = [cs[i]'(by omega)] := by
    rw [List.drop_eq_getElem_cons (by omega)]; rfl
  rw [hd] at h1
  have hx : xs[i]? = some (xs[i]'(by omega)) := List.getElem?_eq_getElem (by omega)
  exact ⟨_, _, n, hci, h1.trans hx⟩

theorem trod_int64 {t : TypeId} {fuel : Nat} {v : Value} {x : DataW H × List MemPlace} (ht : P.underlying t = some (.int .i64)) (h : DataW.trod enc P w base spare held fuel t [v] = some x) : ∃ z : Int, v = .int .i64 z ∧ -9223372036854775808 ≤ z ∧ z ≤ 9223372036854775807 := by
  obtain ⟨n, h1, _, h3⟩ := DataW.trod_int ht h
  simp only [List.cons.injEq, and_true] at h1
  refine ⟨n, h1, ?_⟩
  simp [Lit.wf, IntKind.min, IntKind.max, IntKind.signed, IntKind.bits] at h3
  omega

/-- Every element reads: then the slice reads as a list. -/
theorem open_rdQ {α : Type} (mk : α → List Value) (Q : α → Prop) {s : Nat} {t e : TypeId} {fuel : Nat} {v : Value} {x : DataW H × List MemPlace} (ht : P.underlying t = some (.slice e)) (hC : P.cellsOf e = s) (hs : 0 < s)
    (hel : ∀ n cs y, DataW.trod enc P w base spare held n e cs = some y → ∃ b : α, cs = mk b ∧ Q b) (hg : ∀ b, Q b → (mk b).length = s ∧ ∀ u ∈ mk b, u.oneCell' = true)
    (h : DataW.trod enc P w base spare held fuel t [v] = some x) : ∃ bs : List α, Rd w v s (bs.map mk) ∧ ∀ b ∈ bs, Q b := by
  rcases open_slice ht h with ⟨h0, _⟩ | ⟨a, len, cap, m, n, D, Pl, h0, hb, hl, hm, hmm, hx, hi⟩
  · simp only [List.cons.injEq, and_true] at h0
    subst h0
    exact ⟨[], Rd.nil_ w s, by simp⟩
  · simp only [List.cons.injEq, and_true] at h0
    subst h0
    have hlm : len ≤ m := by rw [hmm]; split <;> omega
    have hb : ∀ i, i < len → ∃ b : α, Q b ∧ ∀ j u, (mk b)[j]? = some u → w.cell? (a.add (i * s + j)) = some u := by
      intro i hil
      obtain ⟨cs', h1, h2⟩ := hi i (by omega)
      obtain ⟨b, rfl, hq⟩ := hel _ _ _ h2
      obtain ⟨_, hcl, hat⟩ := World.cells?_some h1
      rw [hC] at hat
      refine ⟨b, hq, fun j u hj => ?_⟩
      have hjl : j < s := by
        have := (hg b hq).1
        rcases Nat.lt_or_ge j (mk b).length with h | h
        · omega
        · rw [List.getElem?_eq_none h] at hj; cases hj
      have := hat j hjl
      rw [hj] at this
      rw [← Go.Deep.add_add]; exact this
    have hall : ∀ k, k ≤ len → ∃ bs : List α, bs.length = k ∧ (∀ b ∈ bs, Q b) ∧ ∀ i b, bs[i]? = some b → ∀ j u, (mk b)[j]? = some u → w.cell? (a.add (i * s + j)) = some u := by
      intro k
      induction k with
      | zero => intro _; exact ⟨[], rfl, by simp, by simp⟩
      | succ k ih =>
        intro hk
        obtain ⟨bs, hbl, hQ, hbs⟩ := ih (by omega)
        obtain ⟨b, hq, hb'⟩ := hb k (by omega)
        refine ⟨bs ++ [b], by simp [hbl], fun x hx => (by rcases List.mem_append.1 hx with hx | hx; · exact hQ x hx
                                                          · rw [List.mem_singleton.1 hx]; exact hq), fun i b' hib => ?_⟩
        rcases Nat.lt_or_ge i bs.length with hlt | hge
        · rw [List.getElem?_append_left hlt] at hib; exact hbs i b' hib
        · rw [List.getElem?_append_right hge] at hib
          have : i - bs.length = 0 := by
            rcases Nat.eq_zero_or_pos (i - bs.length) with h | h
            · exact h
            · rw [List.getElem?_eq_none (by simp; omega)] at hib; cases hib
          rw [this] at hib
          simp only [List.getElem?_cons_zero, Option.some.injEq] at hib
          subst hib
          have : i = k := by omega
          subst this
          exact hb'
    obtain ⟨bs, hbl, hQ, hbs⟩ := hall len (Nat.le_refl _)
    have hgood : ∀ e ∈ bs.map mk, e.length = s ∧ ∀ u ∈ e, u.oneCell' = true := by
      intro e he
      obtain ⟨b, hbm, rfl⟩ := List.mem_map.1 he
      exact hg b (hQ b hbm)
    have hsp : 0 < len → ∃ b o, a = ⟨b, o, none⟩ := by
      intro hpos
      have hb0 : 0 < bs.length := by omega
      have h0 : bs[0]? = some (bs[0]'hb0) := List.getElem?_eq_getElem hb0
      have hm0 : (mk (bs[0]'hb0))[0]? = some ((mk (bs[0]'hb0))[0]'(by have := (hg (bs[0]'hb0) (hQ _ (List.getElem_mem hb0))).1; omega)) := List.getElem?_eq_getElem _
      have := hbs 0 _ h0 0 _ hm0
      obtain ⟨ab, ao, asp⟩ := a
      cases asp with
      | none => exact ⟨ab, ao, rfl⟩
      | some q =>
        simp [World.cell?, Addr.add] at this
        split at this <;> cases this
    refine ⟨bs, ⟨⟨some a, cap, by simp [hbl], by simpa [hbl] using hl, hm, fun hpos => ?_⟩, hgood, ?_⟩, hQ⟩
    · obtain ⟨b, o, rfl⟩ := hsp (by simpa [hbl] using hpos)
      exact ⟨b, o, rfl⟩
    · intro j u hj
      have hlen := flatten_len (es := bs.map mk) (fun e he => (hgood e he).1)
      have hjl : j < bs.length * s := by
        rcases Nat.lt_or_ge j ((bs.map mk).flatten.length) with h | h
        · rw [hlen] at h; simpa using h
        · rw [List.getElem?_eq_none h] at hj; cases hj
      have hpos : 0 < len := by
        rcases Nat.eq_zero_or_pos bs.length with h | h
        · rw [h] at hjl; omega
        · omega
      obtain ⟨b, o, rfl⟩ := hsp hpos
      have hk : j / s < bs.length := (Nat.div_lt_iff_lt_mul hs).2 hjl
      have hbk : bs[j / s]? = some (bs[j / s]'hk) := List.getElem?_eq_getElem hk
      have hc : j % s < (mk (bs[j / s]'hk)).length := by rw [(hg _ (hQ _ (List.getElem_mem hk))).1]; exact Nat.mod_lt _ hs
      have hck := List.getElem?_eq_getElem hc
      have h1 := hbs _ _ hbk _ _ hck
      have h2 := flatten_get (fun e he => (hgood e he).1) (k := j / s) (by rw [List.getElem?_map, hbk]; rfl) hck
      rw [show j / s * s + j % s = j from by rw [Nat.mul_comm]; exact Nat.div_add_mod j s] at h1 h2
      rw [h2] at hj
      simp only [Option.some.injEq] at hj
      subst hj
      simpa [blkOf, offOf, Addr.add_lit] using h1

theorem open_rd {α : Type} (mk : α → List Value) {s : Nat} {t e : TypeId} {fuel : Nat} {v : Value} {x : DataW H × List MemPlace} (ht : P.underlying t = some (.slice e)) (hC : P.cellsOf e = s) (hs : 0 < s)
    (hel : ∀ n cs y, DataW.trod enc P w base spare held n e cs = some y → ∃ b : α, cs = mk b) (hg : ∀ b, (mk b).length = s ∧ ∀ u ∈ mk b, u.oneCell' = true)
    (h : DataW.trod enc P w base spare held fuel t [v] = some x) : ∃ bs : List α, Rd w v s (bs.map mk) := by
  obtain ⟨bs, hb, _⟩ := open_rdQ mk (fun _ => True) ht hC hs (fun n cs y hy => by obtain ⟨b, hb⟩ := hel n cs y hy; exact ⟨b, hb, trivial⟩) (fun b _ => hg b) h
  exact ⟨bs, hb⟩

/-- A list of numbers. -/
theorem open_ints {t e : TypeId} {fuel : Nat} {v : Value} {x : DataW H × List MemPlace} (ht : P.underlying t = some (.slice e)) (hC : P.cellsOf e = 1) (he : P.underlying e = some (.int .i64))
    (h : DataW.trod enc P w base spare held fuel t [v] = some x) : ∃ l : List Int, Rd w v 1 (l.map icell) :=
  open_rd icell ht hC (by omega) (fun n cs y hy => by
    obtain ⟨z, h1, _, _⟩ := DataW.trod_int he hy
    exact ⟨z, h1⟩) (fun b => ⟨rfl, by simp [icell, Value.oneCell']⟩) h

theorem cells_at {t : TypeId} {fs : Array Field} {ts : List TypeId} {fuel : Nat} {cs : List Value} {x : DataW H × List MemPlace} (hs : P.underlying t = some (.struct fs)) (hone : oneCellFields P fs = true) (hC : P.cellsOf t = fs.size) (hT : fs.toList.map (fun f => f.type) = ts)
    (h : DataW.trod enc P w base spare held fuel t cs = some x) : cs.length = ts.length ∧ ∀ (i : Nat) (τ : TypeId), ts[i]? = some τ → ∃ v y n, cs[i]? = some v ∧ DataW.trod enc P w base spare held n τ [v] = some y := by
  obtain ⟨hl, hg⟩ := struct_cells hs hone hC h
  subst hT
  refine ⟨by simp [hl], fun i τ hi => ?_⟩
  rw [List.getElem?_map] at hi
  cases hf : fs.toList[i]? with
  | none => rw [hf] at hi; cases hi
  | some f =>
    rw [hf] at hi
    simp only [Option.map_some, Option.some.injEq] at hi
    subst hi
    exact hg i f (by simpa using hf)

theorem flat_two {t ta tb : TypeId} {fs : Array Field} {fuel : Nat} {cs : List Value} {x : DataW H × List MemPlace} (hs : P.underlying t = some (.struct fs)) (hone : oneCellFields P fs = true) (hC : P.cellsOf t = fs.size) (hT : fs.toList.map (fun f => f.type) = [ta, tb])
    (h : DataW.trod enc P w base spare held fuel t cs = some x) : ∃ a b n m y z, cs = [a, b] ∧ DataW.trod enc P w base spare held n ta [a] = some y ∧ DataW.trod enc P w base spare held m tb [b] = some z := by
  obtain ⟨hl, hg⟩ := cells_at hs hone hC hT h
  obtain ⟨v0, _, _, c0, k0⟩ := hg 0 ta rfl
  obtain ⟨v1, _, _, c1, k1⟩ := hg 1 tb rfl
  match cs, hl with
  | [a, b], _ =>
    simp at c0 c1
    subst c0 c1
    exact ⟨_, _, _, _, _, _, rfl, k0, k1⟩
section
variable {t ti e t3 : TypeId} {fs : Array Field} {fuel : Nat} {cs : List Value} {x : DataW H × List MemPlace}
theorem flat_carton (hs : P.underlying t = some (.struct fs)) (hone : oneCellFields P fs = true) (hC : P.cellsOf t = fs.size) (hT : fs.toList.map (fun f => f.type) = [t3, t3, ti])
    (hti : P.underlying ti = some (.slice e)) (hCe : P.cellsOf e = 1) (he : P.underlying e = some (.int .i64)) (h3 : P.underlying t3 = some (.int .i64))
    (h : DataW.trod enc P w base spare held fuel t cs = some x) : ∃ b : CartonM × Value, cs = CartonM.cells b ∧ Rd w b.2 1 (b.1.l.map icell) := by
  obtain ⟨hl, hg⟩ := cells_at hs hone hC hT h
  obtain ⟨v0, _, _, c0, k0⟩ := hg 0 t3 rfl
  obtain ⟨v1, _, _, c1, k1⟩ := hg 1 t3 rfl
  obtain ⟨v2, _, _, c2, k2⟩ := hg 2 ti rfl
  obtain ⟨l, hr⟩ := open_ints hti hCe he k2
  obtain ⟨z0, rfl, _⟩ := trod_int64 h3 k0
  obtain ⟨z1, rfl, _⟩ := trod_int64 h3 k1
  match cs, hl with
  | [a, b, c], _ =>
    simp at c0 c1 c2
    subst c0 c1 c2
    exact ⟨(⟨z0, z1, l⟩, c), rfl, hr⟩
end
theorem rd_one {v : Value} {s : Nat} {es : List (List Value)} (h : Rd w v s es) : v.oneCell' = true := h.one_

/-- All fields are int64. -/
def intsB (P : Program) (t : TypeId) (n : Nat) : Bool :=
  match P.underlying t with
  | some (.struct fs) => fs.size == n && oneCellFields P fs && P.cellsOf t == n && fs.toList.all fun f => match P.underlying f.type with | some (.int .i64) => true | _ => false
  | _ => false

theorem flat_ints {t : TypeId} {n : Nat} {fuel : Nat} {cs : List Value} {x : DataW H × List MemPlace} (hB : intsB P t n = true) (h : DataW.trod enc P w base spare held fuel t cs = some x) : ∃ zs : List Int, zs.length = n ∧ cs = zs.map (Value.int .i64) := by
  unfold intsB at hB
  split at hB
  · rename_i fs hs
    simp only [Bool.and_eq_true, beq_iff_eq, List.all_eq_true] at hB
    obtain ⟨⟨⟨h1, h2⟩, h3⟩, h4⟩ := hB
    obtain ⟨hl, hg⟩ := struct_cells hs h2 (h3.trans h1.symm) h
    have hall : ∀ i (hi : i < cs.length), ∃ z, cs[i] = Value.int .i64 z := by
      intro i hi
      have hf : fs[i]? = some (fs[i]'(by omega)) := Array.getElem?_eq_getElem (by omega)
      obtain ⟨v, y, m, hc, ht⟩ := hg i _ hf
      have hu := h4 (fs[i]'(by omega)) (Array.getElem_mem_toList _)
      split at hu
      · rename_i hu'
        obtain ⟨z, hz, _⟩ := trod_int64 hu' ht
        rw [List.getElem?_eq_getElem hi] at hc
        simp only [Option.some.injEq] at hc
        exact ⟨z, hc.trans hz⟩
      · cases hu
    clear hg h
    have : ∃ zs : List Int, cs = zs.map (Value.int .i64) := by
      clear hl h1 h2 h3 h4
      induction cs with
      | nil => exact ⟨[], rfl⟩
      | cons c r ih =>
        obtain ⟨z, hz⟩ := hall 0 (by simp)
        obtain ⟨zs, hzs⟩ := ih (fun i hi => hall (i + 1) (by simpa using hi))
        refine ⟨z :: zs, ?_⟩
        simp only [List.getElem_cons_zero] at hz
        rw [hz, hzs]; rfl
    obtain ⟨zs, hzs⟩ := this
    exact ⟨zs, by rw [hzs] at hl; simp at hl; omega, hzs⟩
  · cases hB

theorem flat_ints4 {t : TypeId} {fuel : Nat} {cs : List Value} {x : DataW H × List MemPlace} (hB : intsB P t 4 = true) (h : DataW.trod enc P w base spare held fuel t cs = some x) : ∃ a b c d : Int, cs = [.int .i64 a, .int .i64 b, .int .i64 c, .int .i64 d] := by
  obtain ⟨zs, hl, rfl⟩ := flat_ints hB h
  match zs, hl with
  | [a, b, c, d], _ => exact ⟨a, b, c, d, rfl⟩
/-- A struct by value. -/
theorem open_val {r : Reach} {b0 : Nat} {t : TypeId} {v : Value} {d : DataW H} {p : List MemPlace} {fs : Array Field} (hs : P.underlying t = some (.struct fs)) (hv : Value.okWide P w r b0 t v) (h : DataW.Trod enc P w base spare held t v d p) :
    ∃ (cs : List Value) (fuel : Nat), v = .agg cs.toArray ∧ DataW.trod enc P w base spare held fuel t cs = some (d, p) := by
  obtain ⟨cs, rfl, _⟩ := okWide_struct hs hv
  obtain ⟨fuel, hf⟩ := h
  exact ⟨cs.toList, fuel, by simp, hf⟩
end
end Go.Proofs.YtnfokjlplbbbeaaDoor

/-
  What a row's listed variables hold, as the walks ask it; the door's own heap meets the list.
-/
namespace Go.Proofs.YtnfokjlplbbbeaaDoor
open Go.RowKit Go.ChangeAt
namespace LaidF
theorem gP : Tryd.prog.globalNamed "internal/strconv.uint64pow10" = some 2 := by kernel_rfl
theorem gPT : (Tryd.prog.globals[2]?).map (·.type) = some 108 := by kernel_rfl
theorem cP : Tryd.prog.cellsOf 94 = 1 := by kernel_rfl
theorem cPT : Tryd.prog.cellsOf 108 = 20 := by kernel_rfl
theorem eP : (Rows.laid_internal_strconv_uint64pow10 : DataW Unit) = Lib.tabData .u64 Lib.pow10Tab := by kernel_rfl
theorem tabI {W : World} {r : List (String × DataW Unit)} (h : laidMet Tryd.prog (("internal/strconv.uint64pow10", Rows.laid_internal_strconv_uint64pow10) :: r) W) : TabI W := by
  rw [eP] at h
  exact Lib.tabIs_of_head gP gPT Tryd.underlying108 Tryd.underlying94 cP cPT h
end LaidF
end Go.Proofs.YtnfokjlplbbbeaaDoor
