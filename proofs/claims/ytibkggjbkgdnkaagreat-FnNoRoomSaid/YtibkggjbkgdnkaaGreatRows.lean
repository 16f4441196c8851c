/-
  No cell of these rows narrows 'for every input' (looked for: loops, veiled, ifaces, maps, wideKeys, modest, calm, conditions, laid).
  DERIVED. THE GIVEN ROWS OF THIS SEAT. 15 by the template 'for every input the law returns true; each argument reads behind the call as it read before'; 0 by the template 'total and deterministic' (their statements: YtibkggjbkgdnkaaGreatTotals.lean).
  GIVEN WITH THE SEED: the statements are not yours to turn. If you find one false, say at which input.
  Laid BY PROGRAM, IN A SANDBOX (cutbox-rows.mjs): the forced cells as the released guide's own fill.sh prints them over the translation 4c3aa7a480d6cf8c… (all of the seat's roots in one cut). By AI agents, Wed Nov 11 2026. No macro, syntax, notation, axiom, sorry.
-/
import Derived.Test.YtibkggjbkgdnkaaGreatChecked
import GoSem.Claim
import GoSem.ClaimJoined
import GoSem.ClaimMapViews
import Derived.JoinedTies
import Derived.KernelRfl
namespace Go.Proofs.YtibkggjbkgdnkaaGreat
/- THE CELL 'sum', in the pinned program and in every row, IS THE sha256 OF THE DUMP (.gsa) THAT YtibkggjbkgdnkaaGreatProg.lean LOADS. Nothing in Lean hashes anything: it is a label: what it is worth is what the hold of that sum in a sandbox is worth. -/
noncomputable def Tryz.pinned : Pinned := { name := "ytibkggjbkgdnkaagreat", sum := "4c3aa7a480d6cf8c7bb48be5b0f09b73bebb72738df1fe0d3d7759d64dd049d3", checked := Tryz.checked }
namespace Rows
def none {H : Type} : Left H := { results := [], args := [] }

/-- 'laws.FnExactGroupsOf': WHATEVER THE INPUT: true; the input reads as it did. -/
def fnExactGroupsOfSpec : ChangeSpec := { name := "fnExactGroupsOf", fn := fun _ => fun
  | [d] => { results := [.lit (.bool true)], args := [d] }
  | _ => none }
def fnExactGroupsOfRow : OpenClaim := { program := "ytibkggjbkgdnkaagreat", sum := "4c3aa7a480d6cf8c7bb48be5b0f09b73bebb72738df1fe0d3d7759d64dd049d3", func := "loop.example/g00489/laws.FnExactGroupsOf", spec := "fnExactGroupsOf", unfollowed := true, recurses := true, apart := false }
def FnExactGroupsOfSaid : Prop := fnExactGroupsOfRow.holds Tryz.pinned (OpenSpec.ofChange fnExactGroupsOfSpec)

/-- ITS FALSE NEIGHBOUR: 'it returns false'. Refute it at one input. -/
def fnExactGroupsOfWrong : ChangeSpec := { name := "fnExactGroupsOf", fn := fun _ => fun
  | [d] => { results := [.lit (.bool false)], args := [d] }
  | _ => none }
def FnExactGroupsOfWrongFalsely : Prop := fnExactGroupsOfRow.holds Tryz.pinned (OpenSpec.ofChange fnExactGroupsOfWrong)

/-- 'laws.FnExactUnitsOf': WHATEVER THE INPUT: true; the input reads as it did. -/
def fnExactUnitsOfSpec : ChangeSpec := { name := "fnExactUnitsOf", fn := fun _ => fun
  | [d1, d2] => { results := [.lit (.bool true)], args := [d1, d2] }
  | _ => none }
def fnExactUnitsOfRow : OpenClaim := { program := "ytibkggjbkgdnkaagreat", sum := "4c3aa7a480d6cf8c7bb48be5b0f09b73bebb72738df1fe0d3d7759d64dd049d3", func := "loop.example/g00489/laws.FnExactUnitsOf", spec := "fnExactUnitsOf", unfollowed := true, recurses := true, apart := false }
def FnExactUnitsOfSaid : Prop := fnExactUnitsOfRow.holds Tryz.pinned (OpenSpec.ofChange fnExactUnitsOfSpec)

/-- ITS FALSE NEIGHBOUR: 'it returns false'. Refute it at one input. -/
def fnExactUnitsOfWrong : ChangeSpec := { name := "fnExactUnitsOf", fn := fun _ => fun
  | [d1, d2] => { results := [.lit (.bool false)], args := [d1, d2] }
  | _ => none }
def FnExactUnitsOfWrongFalsely : Prop := fnExactUnitsOfRow.holds Tryz.pinned (OpenSpec.ofChange fnExactUnitsOfWrong)

/-- 'laws.FnExactNextFit': WHATEVER THE INPUT: true; the input reads as it did. -/
def fnExactNextFitSpec : ChangeSpec := { name := "fnExactNextFit", fn := fun _ => fun
  | [d1, d2] => { results := [.lit (.bool true)], args := [d1, d2] }
  | _ => none }
def fnExactNextFitRow : OpenClaim := { program := "ytibkggjbkgdnkaagreat", sum := "4c3aa7a480d6cf8c7bb48be5b0f09b73bebb72738df1fe0d3d7759d64dd049d3", func := "loop.example/g00489/laws.FnExactNextFit", spec := "fnExactNextFit", unfollowed := true, recurses := true, apart := false }
def FnExactNextFitSaid : Prop := fnExactNextFitRow.holds Tryz.pinned (OpenSpec.ofChange fnExactNextFitSpec)

/-- ITS FALSE NEIGHBOUR: 'it returns false'. Refute it at one input. -/
def fnExactNextFitWrong : ChangeSpec := { name := "fnExactNextFit", fn := fun _ => fun
  | [d1, d2] => { results := [.lit (.bool false)], args := [d1, d2] }
  | _ => none }
def FnExactNextFitWrongFalsely : Prop := fnExactNextFitRow.holds Tryz.pinned (OpenSpec.ofChange fnExactNextFitWrong)

/-- 'laws.FnExactFirstFit': WHATEVER THE INPUT: true; the input reads as it did. -/
def fnExactFirstFitSpec : ChangeSpec := { name := "fnExactFirstFit", fn := fun _ => fun
  | [d1, d2] => { results := [.lit (.bool true)], args := [d1, d2] }
  | _ => none }
def fnExactFirstFitRow : OpenClaim := { program := "ytibkggjbkgdnkaagreat", sum := "4c3aa7a480d6cf8c7bb48be5b0f09b73bebb72738df1fe0d3d7759d64dd049d3", func := "loop.example/g00489/laws.FnExactFirstFit", spec := "fnExactFirstFit", unfollowed := true, recurses := true, apart := false }
def FnExactFirstFitSaid : Prop := fnExactFirstFitRow.holds Tryz.pinned (OpenSpec.ofChange fnExactFirstFitSpec)

/-- ITS FALSE NEIGHBOUR: 'it returns false'. Refute it at one input. -/
def fnExactFirstFitWrong : ChangeSpec := { name := "fnExactFirstFit", fn := fun _ => fun
  | [d1, d2] => { results := [.lit (.bool false)], args := [d1, d2] }
  | _ => none }
def FnExactFirstFitWrongFalsely : Prop := fnExactFirstFitRow.holds Tryz.pinned (OpenSpec.ofChange fnExactFirstFitWrong)

/-- 'laws.FnExactPackWay': WHATEVER THE INPUT: true; the input reads as it did. -/
def fnExactPackWaySpec : ChangeSpec := { name := "fnExactPackWay", fn := fun _ => fun
  | [d1, d2] => { results := [.lit (.bool true)], args := [d1, d2] }
  | _ => none }
def fnExactPackWayRow : OpenClaim := { program := "ytibkggjbkgdnkaagreat", sum := "4c3aa7a480d6cf8c7bb48be5b0f09b73bebb72738df1fe0d3d7759d64dd049d3", func := "loop.example/g00489/laws.FnExactPackWay", spec := "fnExactPackWay", unfollowed := true, recurses := true, apart := false }
def FnExactPackWaySaid : Prop := fnExactPackWayRow.holds Tryz.pinned (OpenSpec.ofChange fnExactPackWaySpec)

/-- ITS FALSE NEIGHBOUR: 'it returns false'. Refute it at one input. -/
def fnExactPackWayWrong : ChangeSpec := { name := "fnExactPackWay", fn := fun _ => fun
  | [d1, d2] => { results := [.lit (.bool false)], args := [d1, d2] }
  | _ => none }
def FnExactPackWayWrongFalsely : Prop := fnExactPackWayRow.holds Tryz.pinned (OpenSpec.ofChange fnExactPackWayWrong)

/-- 'laws.FnExactIsPacking': WHATEVER THE INPUT: true; the input reads as it did. -/
def fnExactIsPackingSpec : ChangeSpec := { name := "fnExactIsPacking", fn := fun _ => fun
  | [d1, d2, d3] => { results := [.lit (.bool true)], args := [d1, d2, d3] }
  | _ => none }
def fnExactIsPackingRow : OpenClaim := { program := "ytibkggjbkgdnkaagreat", sum := "4c3aa7a480d6cf8c7bb48be5b0f09b73bebb72738df1fe0d3d7759d64dd049d3", func := "loop.example/g00489/laws.FnExactIsPacking", spec := "fnExactIsPacking", unfollowed := true, recurses := true, apart := false }
def FnExactIsPackingSaid : Prop := fnExactIsPackingRow.holds Tryz.pinned (OpenSpec.ofChange fnExactIsPackingSpec)

/-- ITS FALSE NEIGHBOUR: 'it returns false'. Refute it at one input. -/
def fnExactIsPackingWrong : ChangeSpec := { name := "fnExactIsPacking", fn := fun _ => fun
  | [d1, d2, d3] => { results := [.lit (.bool false)], args := [d1, d2, d3] }
  | _ => none }
def FnExactIsPackingWrongFalsely : Prop := fnExactIsPackingRow.holds Tryz.pinned (OpenSpec.ofChange fnExactIsPackingWrong)

/-- 'laws.FnExactPalletGram': WHATEVER THE INPUT: true; the input reads as it did. -/
def fnExactPalletGramSpec : ChangeSpec := { name := "fnExactPalletGram", fn := fun _ => fun
  | [d1, d2, d3] => { results := [.lit (.bool true)], args := [d1, d2, d3] }
  | _ => none }
def fnExactPalletGramRow : OpenClaim := { program := "ytibkggjbkgdnkaagreat", sum := "4c3aa7a480d6cf8c7bb48be5b0f09b73bebb72738df1fe0d3d7759d64dd049d3", func := "loop.example/g00489/laws.FnExactPalletGram", spec := "fnExactPalletGram", unfollowed := true, recurses := true, apart := false }
def FnExactPalletGramSaid : Prop := fnExactPalletGramRow.holds Tryz.pinned (OpenSpec.ofChange fnExactPalletGramSpec)

/-- ITS FALSE NEIGHBOUR: 'it returns false'. Refute it at one input. -/
def fnExactPalletGramWrong : ChangeSpec := { name := "fnExactPalletGram", fn := fun _ => fun
  | [d1, d2, d3] => { results := [.lit (.bool false)], args := [d1, d2, d3] }
  | _ => none }
def FnExactPalletGramWrongFalsely : Prop := fnExactPalletGramRow.holds Tryz.pinned (OpenSpec.ofChange fnExactPalletGramWrong)

/-- 'laws.FnExactBest': WHATEVER THE INPUT: true; the input reads as it did. -/
def fnExactBestSpec : ChangeSpec := { name := "fnExactBest", fn := fun _ => fun
  | [d1, d2] => { results := [.lit (.bool true)], args := [d1, d2] }
  | _ => none }
def fnExactBestRow : OpenClaim := { program := "ytibkggjbkgdnkaagreat", sum := "4c3aa7a480d6cf8c7bb48be5b0f09b73bebb72738df1fe0d3d7759d64dd049d3", func := "loop.example/g00489/laws.FnExactBest", spec := "fnExactBest", unfollowed := true, recurses := true, apart := false }
def FnExactBestSaid : Prop := fnExactBestRow.holds Tryz.pinned (OpenSpec.ofChange fnExactBestSpec)

/-- ITS FALSE NEIGHBOUR: 'it returns false'. Refute it at one input. -/
def fnExactBestWrong : ChangeSpec := { name := "fnExactBest", fn := fun _ => fun
  | [d1, d2] => { results := [.lit (.bool false)], args := [d1, d2] }
  | _ => none }
def FnExactBestWrongFalsely : Prop := fnExactBestRow.holds Tryz.pinned (OpenSpec.ofChange fnExactBestWrong)

/-- 'laws.FnExactCartonsOf': WHATEVER THE INPUT: true; the input reads as it did. -/
def fnExactCartonsOfSpec : ChangeSpec := { name := "fnExactCartonsOf", fn := fun _ => fun
  | [d] => { results := [.lit (.bool true)], args := [d] }
  | _ => none }
def fnExactCartonsOfRow : OpenClaim := { program := "ytibkggjbkgdnkaagreat", sum := "4c3aa7a480d6cf8c7bb48be5b0f09b73bebb72738df1fe0d3d7759d64dd049d3", func := "loop.example/g00489/laws.FnExactCartonsOf", spec := "fnExactCartonsOf", unfollowed := true, recurses := true, apart := false }
def FnExactCartonsOfSaid : Prop := fnExactCartonsOfRow.holds Tryz.pinned (OpenSpec.ofChange fnExactCartonsOfSpec)

/-- ITS FALSE NEIGHBOUR: 'it returns false'. Refute it at one input. -/
def fnExactCartonsOfWrong : ChangeSpec := { name := "fnExactCartonsOf", fn := fun _ => fun
  | [d] => { results := [.lit (.bool false)], args := [d] }
  | _ => none }
def FnExactCartonsOfWrongFalsely : Prop := fnExactCartonsOfRow.holds Tryz.pinned (OpenSpec.ofChange fnExactCartonsOfWrong)

/-- 'laws.FnPackings': WHATEVER THE INPUT: true; the input reads as it did. -/
def fnPackingsSpec : ChangeSpec := { name := "fnPackings", fn := fun _ => fun
  | [d] => { results := [.lit (.bool true)], args := [d] }
  | _ => none }
def fnPackingsRow : OpenClaim := { program := "ytibkggjbkgdnkaagreat", sum := "4c3aa7a480d6cf8c7bb48be5b0f09b73bebb72738df1fe0d3d7759d64dd049d3", func := "loop.example/g00489/laws.FnPackings", spec := "fnPackings", unfollowed := true, recurses := true, apart := false }
def FnPackingsSaid : Prop := fnPackingsRow.holds Tryz.pinned (OpenSpec.ofChange fnPackingsSpec)

/-- ITS FALSE NEIGHBOUR: 'it returns false'. Refute it at one input. -/
def fnPackingsWrong : ChangeSpec := { name := "fnPackings", fn := fun _ => fun
  | [d] => { results := [.lit (.bool false)], args := [d] }
  | _ => none }
def FnPackingsWrongFalsely : Prop := fnPackingsRow.holds Tryz.pinned (OpenSpec.ofChange fnPackingsWrong)

/-- 'laws.FnNoRoom': WHATEVER THE INPUT: true; the input reads as it did. -/
def fnNoRoomSpec : ChangeSpec := { name := "fnNoRoom", fn := fun _ => fun
  | [d] => { results := [.lit (.bool true)], args := [d] }
  | _ => none }
def fnNoRoomRow : OpenClaim := { program := "ytibkggjbkgdnkaagreat", sum := "4c3aa7a480d6cf8c7bb48be5b0f09b73bebb72738df1fe0d3d7759d64dd049d3", func := "loop.example/g00489/laws.FnNoRoom", spec := "fnNoRoom", unfollowed := true, recurses := true, apart := false }
def FnNoRoomSaid : Prop := fnNoRoomRow.holds Tryz.pinned (OpenSpec.ofChange fnNoRoomSpec)

/-- ITS FALSE NEIGHBOUR: 'it returns false'. Refute it at one input. -/
def fnNoRoomWrong : ChangeSpec := { name := "fnNoRoom", fn := fun _ => fun
  | [d] => { results := [.lit (.bool false)], args := [d] }
  | _ => none }
def FnNoRoomWrongFalsely : Prop := fnNoRoomRow.holds Tryz.pinned (OpenSpec.ofChange fnNoRoomWrong)

/-- 'laws.FnBestLess': WHATEVER THE INPUT: true; the input reads as it did. -/
def fnBestLessSpec : ChangeSpec := { name := "fnBestLess", fn := fun _ => fun
  | [d] => { results := [.lit (.bool true)], args := [d] }
  | _ => none }
def fnBestLessRow : OpenClaim := { program := "ytibkggjbkgdnkaagreat", sum := "4c3aa7a480d6cf8c7bb48be5b0f09b73bebb72738df1fe0d3d7759d64dd049d3", func := "loop.example/g00489/laws.FnBestLess", spec := "fnBestLess", unfollowed := true, recurses := true, apart := false }
def FnBestLessSaid : Prop := fnBestLessRow.holds Tryz.pinned (OpenSpec.ofChange fnBestLessSpec)

/-- ITS FALSE NEIGHBOUR: 'it returns false'. Refute it at one input. -/
def fnBestLessWrong : ChangeSpec := { name := "fnBestLess", fn := fun _ => fun
  | [d] => { results := [.lit (.bool false)], args := [d] }
  | _ => none }
def FnBestLessWrongFalsely : Prop := fnBestLessRow.holds Tryz.pinned (OpenSpec.ofChange fnBestLessWrong)

/-- 'laws.FnBestOfAll': WHATEVER THE INPUT: true; the input reads as it did. -/
def fnBestOfAllSpec : ChangeSpec := { name := "fnBestOfAll", fn := fun _ => fun
  | [d] => { results := [.lit (.bool true)], args := [d] }
  | _ => none }
def fnBestOfAllRow : OpenClaim := { program := "ytibkggjbkgdnkaagreat", sum := "4c3aa7a480d6cf8c7bb48be5b0f09b73bebb72738df1fe0d3d7759d64dd049d3", func := "loop.example/g00489/laws.FnBestOfAll", spec := "fnBestOfAll", unfollowed := true, recurses := true, apart := false }
def FnBestOfAllSaid : Prop := fnBestOfAllRow.holds Tryz.pinned (OpenSpec.ofChange fnBestOfAllSpec)

/-- ITS FALSE NEIGHBOUR: 'it returns false'. Refute it at one input. -/
def fnBestOfAllWrong : ChangeSpec := { name := "fnBestOfAll", fn := fun _ => fun
  | [d] => { results := [.lit (.bool false)], args := [d] }
  | _ => none }
def FnBestOfAllWrongFalsely : Prop := fnBestOfAllRow.holds Tryz.pinned (OpenSpec.ofChange fnBestOfAllWrong)

/-- 'laws.FnBest': WHATEVER THE INPUT: true; the input reads as it did. -/
def fnBestSpec : ChangeSpec := { name := "fnBest", fn := fun _ => fun
  | [d] => { results := [.lit (.bool true)], args := [d] }
  | _ => none }
def fnBestRow : OpenClaim := { program := "ytibkggjbkgdnkaagreat", sum := "4c3aa7a480d6cf8c7bb48be5b0f09b73bebb72738df1fe0d3d7759d64dd049d3", func := "loop.example/g00489/laws.FnBest", spec := "fnBest", unfollowed := true, recurses := true, apart := false }
def FnBestSaid : Prop := fnBestRow.holds Tryz.pinned (OpenSpec.ofChange fnBestSpec)

/-- ITS FALSE NEIGHBOUR: 'it returns false'. Refute it at one input. -/
def fnBestWrong : ChangeSpec := { name := "fnBest", fn := fun _ => fun
  | [d] => { results := [.lit (.bool false)], args := [d] }
  | _ => none }
def FnBestWrongFalsely : Prop := fnBestRow.holds Tryz.pinned (OpenSpec.ofChange fnBestWrong)

/-- 'laws.FnRatio': WHATEVER THE INPUT: true; the input reads as it did. -/
def fnRatioSpec : ChangeSpec := { name := "fnRatio", fn := fun _ => fun
  | [d] => { results := [.lit (.bool true)], args := [d] }
  | _ => none }
def fnRatioRow : OpenClaim := { program := "ytibkggjbkgdnkaagreat", sum := "4c3aa7a480d6cf8c7bb48be5b0f09b73bebb72738df1fe0d3d7759d64dd049d3", func := "loop.example/g00489/laws.FnRatio", spec := "fnRatio", unfollowed := true, recurses := true, apart := false }
def FnRatioSaid : Prop := fnRatioRow.holds Tryz.pinned (OpenSpec.ofChange fnRatioSpec)

/-- ITS FALSE NEIGHBOUR: 'it returns false'. Refute it at one input. -/
def fnRatioWrong : ChangeSpec := { name := "fnRatio", fn := fun _ => fun
  | [d] => { results := [.lit (.bool false)], args := [d] }
  | _ => none }
def FnRatioWrongFalsely : Prop := fnRatioRow.holds Tryz.pinned (OpenSpec.ofChange fnRatioWrong)

/- THE SECOND FORM. 'bulk': how many values and letters a reading holds, each counted each time it is reached (what is shared counts as often as it is met; a slice's spare places count too). A statement '..UptoSaid' is the law's where the arguments, and the package variables that the reading takes, are together of bulk at most 1048576: NARROWER than '..Said'. Prove '..Said' where nothing that the law and all that it calls make is longer than what came in: it says more and counts as full. Else prove '..UptoSaid'. A law counts once. -/
mutual
def uptoBulk {H : Type} : DataW H → Nat
  | .lit (.string bytes) => bytes.length + 1
  | .lit _ => 1
  | .nil => 1
  | .ptr d => uptoBulk d + 1
  | .slice elems spare => uptoBulkAll elems + uptoBulkAll spare + 1
  | .agg parts => uptoBulkAll parts + 1
  | .iface _ d => uptoBulk d + 1
  | .map entries => uptoBulkEntries entries + 1
  | .held _ => 1
def uptoBulkAll {H : Type} : List (DataW H) → Nat
  | [] => 0
  | d :: r => uptoBulk d + uptoBulkAll r
def uptoBulkEntries {H : Type} : List (Lit × DataW H) → Nat
  | [] => 0
  | x :: r => uptoBulkEntry x + uptoBulkEntries r
def uptoBulkEntry {H : Type} : Lit × DataW H → Nat
  | (.string bytes, d) => bytes.length + uptoBulk d + 1
  | (_, d) => uptoBulk d + 1
 end
def uptoSmall : (H : Type) → List (DataW H) → Bool := fun _ ds => decide (uptoBulkAll ds ≤ 1048576)
def OpenSpec.upto (s : _root_.Go.ChangeSpec) : _root_.Go.OpenSpec := { _root_.Go.OpenSpec.ofChange s with cond := some uptoSmall }

/-- 'laws.FnExactGroupsOf', WHERE WHAT IT READS IS OF BULK AT MOST 1048576: true; the input reads as it did. -/
def fnExactGroupsOfUptoRow : OpenClaim := { program := "ytibkggjbkgdnkaagreat", sum := "4c3aa7a480d6cf8c7bb48be5b0f09b73bebb72738df1fe0d3d7759d64dd049d3", func := "loop.example/g00489/laws.FnExactGroupsOf", spec := "fnExactGroupsOf", unfollowed := true, recurses := true, apart := false, narrowed := true }
def FnExactGroupsOfUptoSaid : Prop := fnExactGroupsOfUptoRow.holds Tryz.pinned (OpenSpec.upto fnExactGroupsOfSpec)

/-- 'laws.FnExactUnitsOf', WHERE WHAT IT READS IS OF BULK AT MOST 1048576: true; the input reads as it did. -/
def fnExactUnitsOfUptoRow : OpenClaim := { program := "ytibkggjbkgdnkaagreat", sum := "4c3aa7a480d6cf8c7bb48be5b0f09b73bebb72738df1fe0d3d7759d64dd049d3", func := "loop.example/g00489/laws.FnExactUnitsOf", spec := "fnExactUnitsOf", unfollowed := true, recurses := true, apart := false, narrowed := true }
def FnExactUnitsOfUptoSaid : Prop := fnExactUnitsOfUptoRow.holds Tryz.pinned (OpenSpec.upto fnExactUnitsOfSpec)

/-- 'laws.FnExactNextFit', WHERE WHAT IT READS IS OF BULK AT MOST 1048576: true; the input reads as it did. -/
def fnExactNextFitUptoRow : OpenClaim := { program := "ytibkggjbkgdnkaagreat", sum := "4c3aa7a480d6cf8c7bb48be5b0f09b73bebb72738df1fe0d3d7759d64dd049d3", func := "loop.example/g00489/laws.FnExactNextFit", spec := "fnExactNextFit", unfollowed := true, recurses := true, apart := false, narrowed := true }
def FnExactNextFitUptoSaid : Prop := fnExactNextFitUptoRow.holds Tryz.pinned (OpenSpec.upto fnExactNextFitSpec)

/-- 'laws.FnExactFirstFit', WHERE WHAT IT READS IS OF BULK AT MOST 1048576: true; the input reads as it did. -/
def fnExactFirstFitUptoRow : OpenClaim := { program := "ytibkggjbkgdnkaagreat", sum := "4c3aa7a480d6cf8c7bb48be5b0f09b73bebb72738df1fe0d3d7759d64dd049d3", func := "loop.example/g00489/laws.FnExactFirstFit", spec := "fnExactFirstFit", unfollowed := true, recurses := true, apart := false, narrowed := true }
def FnExactFirstFitUptoSaid : Prop := fnExactFirstFitUptoRow.holds Tryz.pinned (OpenSpec.upto fnExactFirstFitSpec)

/-- 'laws.FnExactPackWay', WHERE WHAT IT READS IS OF BULK AT MOST 1048576: true; the input reads as it did. -/
def fnExactPackWayUptoRow : OpenClaim := { program := "ytibkggjbkgdnkaagreat", sum := "4c3aa7a480d6cf8c7bb48be5b0f09b73bebb72738df1fe0d3d7759d64dd049d3", func := "loop.example/g00489/laws.FnExactPackWay", spec := "fnExactPackWay", unfollowed := true, recurses := true, apart := false, narrowed := true }
def FnExactPackWayUptoSaid : Prop := fnExactPackWayUptoRow.holds Tryz.pinned (OpenSpec.upto fnExactPackWaySpec)

/-- 'laws.FnExactIsPacking', WHERE WHAT IT READS IS OF BULK AT MOST 1048576: true; the input reads as it did. -/
def fnExactIsPackingUptoRow : OpenClaim := { program := "ytibkggjbkgdnkaagreat", sum := "4c3aa7a480d6cf8c7bb48be5b0f09b73bebb72738df1fe0d3d7759d64dd049d3", func := "loop.example/g00489/laws.FnExactIsPacking", spec := "fnExactIsPacking", unfollowed := true, recurses := true, apart := false, narrowed := true }
def FnExactIsPackingUptoSaid : Prop := fnExactIsPackingUptoRow.holds Tryz.pinned (OpenSpec.upto fnExactIsPackingSpec)

/-- 'laws.FnExactPalletGram', WHERE WHAT IT READS IS OF BULK AT MOST 1048576: true; the input reads as it did. -/
def fnExactPalletGramUptoRow : OpenClaim := { program := "ytibkggjbkgdnkaagreat", sum := "4c3aa7a480d6cf8c7bb48be5b0f09b73bebb72738df1fe0d3d7759d64dd049d3", func := "loop.example/g00489/laws.FnExactPalletGram", spec := "fnExactPalletGram", unfollowed := true, recurses := true, apart := false, narrowed := true }
def FnExactPalletGramUptoSaid : Prop := fnExactPalletGramUptoRow.holds Tryz.pinned (OpenSpec.upto fnExactPalletGramSpec)

/-- 'laws.FnExactBest', WHERE WHAT IT READS IS OF BULK AT MOST 1048576: true; the input reads as it did. -/
def fnExactBestUptoRow : OpenClaim := { program := "ytibkggjbkgdnkaagreat", sum := "4c3aa7a480d6cf8c7bb48be5b0f09b73bebb72738df1fe0d3d7759d64dd049d3", func := "loop.example/g00489/laws.FnExactBest", spec := "fnExactBest", unfollowed := true, recurses := true, apart := false, narrowed := true }
def FnExactBestUptoSaid : Prop := fnExactBestUptoRow.holds Tryz.pinned (OpenSpec.upto fnExactBestSpec)

/-- 'laws.FnExactCartonsOf', WHERE WHAT IT READS IS OF BULK AT MOST 1048576: true; the input reads as it did. -/
def fnExactCartonsOfUptoRow : OpenClaim := { program := "ytibkggjbkgdnkaagreat", sum := "4c3aa7a480d6cf8c7bb48be5b0f09b73bebb72738df1fe0d3d7759d64dd049d3", func := "loop.example/g00489/laws.FnExactCartonsOf", spec := "fnExactCartonsOf", unfollowed := true, recurses := true, apart := false, narrowed := true }
def FnExactCartonsOfUptoSaid : Prop := fnExactCartonsOfUptoRow.holds Tryz.pinned (OpenSpec.upto fnExactCartonsOfSpec)

/-- 'laws.FnPackings', WHERE WHAT IT READS IS OF BULK AT MOST 1048576: true; the input reads as it did. -/
def fnPackingsUptoRow : OpenClaim := { program := "ytibkggjbkgdnkaagreat", sum := "4c3aa7a480d6cf8c7bb48be5b0f09b73bebb72738df1fe0d3d7759d64dd049d3", func := "loop.example/g00489/laws.FnPackings", spec := "fnPackings", unfollowed := true, recurses := true, apart := false, narrowed := true }
def FnPackingsUptoSaid : Prop := fnPackingsUptoRow.holds Tryz.pinned (OpenSpec.upto fnPackingsSpec)

/-- 'laws.FnNoRoom', WHERE WHAT IT READS IS OF BULK AT MOST 1048576: true; the input reads as it did. -/
def fnNoRoomUptoRow : OpenClaim := { program := "ytibkggjbkgdnkaagreat", sum := "4c3aa7a480d6cf8c7bb48be5b0f09b73bebb72738df1fe0d3d7759d64dd049d3", func := "loop.example/g00489/laws.FnNoRoom", spec := "fnNoRoom", unfollowed := true, recurses := true, apart := false, narrowed := true }
def FnNoRoomUptoSaid : Prop := fnNoRoomUptoRow.holds Tryz.pinned (OpenSpec.upto fnNoRoomSpec)

/-- 'laws.FnBestLess', WHERE WHAT IT READS IS OF BULK AT MOST 1048576: true; the input reads as it did. -/
def fnBestLessUptoRow : OpenClaim := { program := "ytibkggjbkgdnkaagreat", sum := "4c3aa7a480d6cf8c7bb48be5b0f09b73bebb72738df1fe0d3d7759d64dd049d3", func := "loop.example/g00489/laws.FnBestLess", spec := "fnBestLess", unfollowed := true, recurses := true, apart := false, narrowed := true }
def FnBestLessUptoSaid : Prop := fnBestLessUptoRow.holds Tryz.pinned (OpenSpec.upto fnBestLessSpec)

/-- 'laws.FnBestOfAll', WHERE WHAT IT READS IS OF BULK AT MOST 1048576: true; the input reads as it did. -/
def fnBestOfAllUptoRow : OpenClaim := { program := "ytibkggjbkgdnkaagreat", sum := "4c3aa7a480d6cf8c7bb48be5b0f09b73bebb72738df1fe0d3d7759d64dd049d3", func := "loop.example/g00489/laws.FnBestOfAll", spec := "fnBestOfAll", unfollowed := true, recurses := true, apart := false, narrowed := true }
def FnBestOfAllUptoSaid : Prop := fnBestOfAllUptoRow.holds Tryz.pinned (OpenSpec.upto fnBestOfAllSpec)

/-- 'laws.FnBest', WHERE WHAT IT READS IS OF BULK AT MOST 1048576: true; the input reads as it did. -/
def fnBestUptoRow : OpenClaim := { program := "ytibkggjbkgdnkaagreat", sum := "4c3aa7a480d6cf8c7bb48be5b0f09b73bebb72738df1fe0d3d7759d64dd049d3", func := "loop.example/g00489/laws.FnBest", spec := "fnBest", unfollowed := true, recurses := true, apart := false, narrowed := true }
def FnBestUptoSaid : Prop := fnBestUptoRow.holds Tryz.pinned (OpenSpec.upto fnBestSpec)

/-- 'laws.FnRatio', WHERE WHAT IT READS IS OF BULK AT MOST 1048576: true; the input reads as it did. -/
def fnRatioUptoRow : OpenClaim := { program := "ytibkggjbkgdnkaagreat", sum := "4c3aa7a480d6cf8c7bb48be5b0f09b73bebb72738df1fe0d3d7759d64dd049d3", func := "loop.example/g00489/laws.FnRatio", spec := "fnRatio", unfollowed := true, recurses := true, apart := false, narrowed := true }
def FnRatioUptoSaid : Prop := fnRatioUptoRow.holds Tryz.pinned (OpenSpec.upto fnRatioSpec)

end Rows
end Go.Proofs.YtibkggjbkgdnkaaGreat
