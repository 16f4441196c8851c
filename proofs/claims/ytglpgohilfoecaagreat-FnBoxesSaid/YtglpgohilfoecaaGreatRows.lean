/-
  No cell of these rows narrows 'for every input' (looked for: loops, veiled, ifaces, maps, wideKeys, modest, calm, conditions, laid).
  DERIVED. THE GIVEN ROWS OF THIS SEAT. 6 by the template 'for every input the law returns true; each argument reads behind the call as it read before'; 0 by the template 'total and deterministic' (their statements: YtglpgohilfoecaaGreatTotals.lean).
  GIVEN WITH THE SEED: the statements are not yours to turn. If you find one false, say at which input.
  Laid BY PROGRAM, IN A SANDBOX (cutbox-rows.mjs): the forced cells as the released guide's own fill.sh prints them over the translation 4b14ca445f719868… (all of the seat's roots in one cut). By AI agents, Wed Nov 11 2026. No macro, syntax, notation, axiom, sorry.
-/
import Derived.Test.YtglpgohilfoecaaGreatChecked
import GoSem.Claim
import GoSem.ClaimJoined
import GoSem.ClaimMapViews
import Derived.JoinedTies
import Derived.KernelRfl
namespace Go.Proofs.YtglpgohilfoecaaGreat
/- THE CELL 'sum', in the pinned program and in every row, IS THE sha256 OF THE DUMP (.gsa) THAT YtglpgohilfoecaaGreatProg.lean LOADS. Nothing in Lean hashes anything: it is a label: what it is worth is what the hold of that sum in a sandbox is worth. -/
noncomputable def Tryz.pinned : Pinned := { name := "ytglpgohilfoecaagreat", sum := "4b14ca445f7198681ac1d4b087c7b407be41f26aa3e4e81c356b2dabb899d2ec", checked := Tryz.checked }
namespace Rows
def none {H : Type} : Left H := { results := [], args := [] }

/-- 'laws.FnExactPlanOf': WHATEVER THE INPUT: true; the input reads as it did. -/
def fnExactPlanOfSpec : ChangeSpec := { name := "fnExactPlanOf", fn := fun _ => fun
  | [d] => { results := [.lit (.bool true)], args := [d] }
  | _ => none }
def fnExactPlanOfRow : OpenClaim := { program := "ytglpgohilfoecaagreat", sum := "4b14ca445f7198681ac1d4b087c7b407be41f26aa3e4e81c356b2dabb899d2ec", func := "loop.example/g00489/laws.FnExactPlanOf", spec := "fnExactPlanOf", unfollowed := true, recurses := true, apart := false }
def FnExactPlanOfSaid : Prop := fnExactPlanOfRow.holds Tryz.pinned (OpenSpec.ofChange fnExactPlanOfSpec)

/-- ITS FALSE NEIGHBOUR: 'it returns false'. Refute it at one input. -/
def fnExactPlanOfWrong : ChangeSpec := { name := "fnExactPlanOf", fn := fun _ => fun
  | [d] => { results := [.lit (.bool false)], args := [d] }
  | _ => none }
def FnExactPlanOfWrongFalsely : Prop := fnExactPlanOfRow.holds Tryz.pinned (OpenSpec.ofChange fnExactPlanOfWrong)

/-- 'laws.FnCartons': WHATEVER THE INPUT: true; the input reads as it did. -/
def fnCartonsSpec : ChangeSpec := { name := "fnCartons", fn := fun _ => fun
  | [d] => { results := [.lit (.bool true)], args := [d] }
  | _ => none }
def fnCartonsRow : OpenClaim := { program := "ytglpgohilfoecaagreat", sum := "4b14ca445f7198681ac1d4b087c7b407be41f26aa3e4e81c356b2dabb899d2ec", func := "loop.example/g00489/laws.FnCartons", spec := "fnCartons", unfollowed := true, recurses := true, apart := false }
def FnCartonsSaid : Prop := fnCartonsRow.holds Tryz.pinned (OpenSpec.ofChange fnCartonsSpec)

/-- ITS FALSE NEIGHBOUR: 'it returns false'. Refute it at one input. -/
def fnCartonsWrong : ChangeSpec := { name := "fnCartons", fn := fun _ => fun
  | [d] => { results := [.lit (.bool false)], args := [d] }
  | _ => none }
def FnCartonsWrongFalsely : Prop := fnCartonsRow.holds Tryz.pinned (OpenSpec.ofChange fnCartonsWrong)

/-- 'laws.FnCosts': WHATEVER THE INPUT: true; the input reads as it did. -/
def fnCostsSpec : ChangeSpec := { name := "fnCosts", fn := fun _ => fun
  | [d] => { results := [.lit (.bool true)], args := [d] }
  | _ => none }
def fnCostsRow : OpenClaim := { program := "ytglpgohilfoecaagreat", sum := "4b14ca445f7198681ac1d4b087c7b407be41f26aa3e4e81c356b2dabb899d2ec", func := "loop.example/g00489/laws.FnCosts", spec := "fnCosts", unfollowed := true, recurses := true, apart := false }
def FnCostsSaid : Prop := fnCostsRow.holds Tryz.pinned (OpenSpec.ofChange fnCostsSpec)

/-- ITS FALSE NEIGHBOUR: 'it returns false'. Refute it at one input. -/
def fnCostsWrong : ChangeSpec := { name := "fnCosts", fn := fun _ => fun
  | [d] => { results := [.lit (.bool false)], args := [d] }
  | _ => none }
def FnCostsWrongFalsely : Prop := fnCostsRow.holds Tryz.pinned (OpenSpec.ofChange fnCostsWrong)

/-- 'laws.FnBoxes': WHATEVER THE INPUT: true; the input reads as it did. -/
def fnBoxesSpec : ChangeSpec := { name := "fnBoxes", fn := fun _ => fun
  | [d] => { results := [.lit (.bool true)], args := [d] }
  | _ => none }
def fnBoxesRow : OpenClaim := { program := "ytglpgohilfoecaagreat", sum := "4b14ca445f7198681ac1d4b087c7b407be41f26aa3e4e81c356b2dabb899d2ec", func := "loop.example/g00489/laws.FnBoxes", spec := "fnBoxes", unfollowed := true, recurses := true, apart := false }
def FnBoxesSaid : Prop := fnBoxesRow.holds Tryz.pinned (OpenSpec.ofChange fnBoxesSpec)

/-- ITS FALSE NEIGHBOUR: 'it returns false'. Refute it at one input. -/
def fnBoxesWrong : ChangeSpec := { name := "fnBoxes", fn := fun _ => fun
  | [d] => { results := [.lit (.bool false)], args := [d] }
  | _ => none }
def FnBoxesWrongFalsely : Prop := fnBoxesRow.holds Tryz.pinned (OpenSpec.ofChange fnBoxesWrong)

/-- 'laws.FnPalletsNeeded': WHATEVER THE INPUT: true; the input reads as it did. -/
def fnPalletsNeededSpec : ChangeSpec := { name := "fnPalletsNeeded", fn := fun _ => fun
  | [d] => { results := [.lit (.bool true)], args := [d] }
  | _ => none }
def fnPalletsNeededRow : OpenClaim := { program := "ytglpgohilfoecaagreat", sum := "4b14ca445f7198681ac1d4b087c7b407be41f26aa3e4e81c356b2dabb899d2ec", func := "loop.example/g00489/laws.FnPalletsNeeded", spec := "fnPalletsNeeded", unfollowed := true, recurses := true, apart := false }
def FnPalletsNeededSaid : Prop := fnPalletsNeededRow.holds Tryz.pinned (OpenSpec.ofChange fnPalletsNeededSpec)

/-- ITS FALSE NEIGHBOUR: 'it returns false'. Refute it at one input. -/
def fnPalletsNeededWrong : ChangeSpec := { name := "fnPalletsNeeded", fn := fun _ => fun
  | [d] => { results := [.lit (.bool false)], args := [d] }
  | _ => none }
def FnPalletsNeededWrongFalsely : Prop := fnPalletsNeededRow.holds Tryz.pinned (OpenSpec.ofChange fnPalletsNeededWrong)

/-- 'laws.FnDearer': WHATEVER THE INPUT: true; the input reads as it did. -/
def fnDearerSpec : ChangeSpec := { name := "fnDearer", fn := fun _ => fun
  | [d] => { results := [.lit (.bool true)], args := [d] }
  | _ => none }
def fnDearerRow : OpenClaim := { program := "ytglpgohilfoecaagreat", sum := "4b14ca445f7198681ac1d4b087c7b407be41f26aa3e4e81c356b2dabb899d2ec", func := "loop.example/g00489/laws.FnDearer", spec := "fnDearer", unfollowed := true, recurses := true, apart := false }
def FnDearerSaid : Prop := fnDearerRow.holds Tryz.pinned (OpenSpec.ofChange fnDearerSpec)

/-- ITS FALSE NEIGHBOUR: 'it returns false'. Refute it at one input. -/
def fnDearerWrong : ChangeSpec := { name := "fnDearer", fn := fun _ => fun
  | [d] => { results := [.lit (.bool false)], args := [d] }
  | _ => none }
def FnDearerWrongFalsely : Prop := fnDearerRow.holds Tryz.pinned (OpenSpec.ofChange fnDearerWrong)

/- THE SECOND FORM. 'bulk': how many values and letters a reading holds, each counted each time it is reached (what is shared counts as often as it is met; a slice's spare places count too). A statement '..UptoSaid' is the law's where the arguments, and the package variables that the reading takes, are together of bulk at most 1048576: NARROWER than '..Said'. Prove '..Said' where nothing that the law and all that it calls make is longer than what came in: it says more and counts as full. Else prove '..UptoSaid'. A law counts once. -/
mutual
def uptoBulk {H : Type} : DataW H → Nat
  | .lit (.string bytes) => bytes.length + 1
  | .lit _ => 1
  | .nil => 1
  | .ptr d => uptoBulk d + 1
  | .slice elems spare => uptoBulkAll elems + uptoBulkAll spare + 1
  | .agg parts => uptoBulkAll parts + 1
  | .iface _ d => uptoBulk d + 1
  | .map entries => uptoBulkEntries entries + 1
  | .held _ => 1
def uptoBulkAll {H : Type} : List (DataW H) → Nat
  | [] => 0
  | d :: r => uptoBulk d + uptoBulkAll r
def uptoBulkEntries {H : Type} : List (Lit × DataW H) → Nat
  | [] => 0
  | x :: r => uptoBulkEntry x + uptoBulkEntries r
def uptoBulkEntry {H : Type} : Lit × DataW H → Nat
  | (.string bytes, d) => bytes.length + uptoBulk d + 1
  | (_, d) => uptoBulk d + 1
 end
def uptoSmall : (H : Type) → List (DataW H) → Bool := fun _ ds => decide (uptoBulkAll ds ≤ 1048576)
def OpenSpec.upto (s : _root_.Go.ChangeSpec) : _root_.Go.OpenSpec := { _root_.Go.OpenSpec.ofChange s with cond := some uptoSmall }

/-- 'laws.FnExactPlanOf', WHERE WHAT IT READS IS OF BULK AT MOST 1048576: true; the input reads as it did. -/
def fnExactPlanOfUptoRow : OpenClaim := { program := "ytglpgohilfoecaagreat", sum := "4b14ca445f7198681ac1d4b087c7b407be41f26aa3e4e81c356b2dabb899d2ec", func := "loop.example/g00489/laws.FnExactPlanOf", spec := "fnExactPlanOf", unfollowed := true, recurses := true, apart := false, narrowed := true }
def FnExactPlanOfUptoSaid : Prop := fnExactPlanOfUptoRow.holds Tryz.pinned (OpenSpec.upto fnExactPlanOfSpec)

/-- 'laws.FnCartons', WHERE WHAT IT READS IS OF BULK AT MOST 1048576: true; the input reads as it did. -/
def fnCartonsUptoRow : OpenClaim := { program := "ytglpgohilfoecaagreat", sum := "4b14ca445f7198681ac1d4b087c7b407be41f26aa3e4e81c356b2dabb899d2ec", func := "loop.example/g00489/laws.FnCartons", spec := "fnCartons", unfollowed := true, recurses := true, apart := false, narrowed := true }
def FnCartonsUptoSaid : Prop := fnCartonsUptoRow.holds Tryz.pinned (OpenSpec.upto fnCartonsSpec)

/-- 'laws.FnCosts', WHERE WHAT IT READS IS OF BULK AT MOST 1048576: true; the input reads as it did. -/
def fnCostsUptoRow : OpenClaim := { program := "ytglpgohilfoecaagreat", sum := "4b14ca445f7198681ac1d4b087c7b407be41f26aa3e4e81c356b2dabb899d2ec", func := "loop.example/g00489/laws.FnCosts", spec := "fnCosts", unfollowed := true, recurses := true, apart := false, narrowed := true }
def FnCostsUptoSaid : Prop := fnCostsUptoRow.holds Tryz.pinned (OpenSpec.upto fnCostsSpec)

/-- 'laws.FnBoxes', WHERE WHAT IT READS IS OF BULK AT MOST 1048576: true; the input reads as it did. -/
def fnBoxesUptoRow : OpenClaim := { program := "ytglpgohilfoecaagreat", sum := "4b14ca445f7198681ac1d4b087c7b407be41f26aa3e4e81c356b2dabb899d2ec", func := "loop.example/g00489/laws.FnBoxes", spec := "fnBoxes", unfollowed := true, recurses := true, apart := false, narrowed := true }
def FnBoxesUptoSaid : Prop := fnBoxesUptoRow.holds Tryz.pinned (OpenSpec.upto fnBoxesSpec)

/-- 'laws.FnPalletsNeeded', WHERE WHAT IT READS IS OF BULK AT MOST 1048576: true; the input reads as it did. -/
def fnPalletsNeededUptoRow : OpenClaim := { program := "ytglpgohilfoecaagreat", sum := "4b14ca445f7198681ac1d4b087c7b407be41f26aa3e4e81c356b2dabb899d2ec", func := "loop.example/g00489/laws.FnPalletsNeeded", spec := "fnPalletsNeeded", unfollowed := true, recurses := true, apart := false, narrowed := true }
def FnPalletsNeededUptoSaid : Prop := fnPalletsNeededUptoRow.holds Tryz.pinned (OpenSpec.upto fnPalletsNeededSpec)

/-- 'laws.FnDearer', WHERE WHAT IT READS IS OF BULK AT MOST 1048576: true; the input reads as it did. -/
def fnDearerUptoRow : OpenClaim := { program := "ytglpgohilfoecaagreat", sum := "4b14ca445f7198681ac1d4b087c7b407be41f26aa3e4e81c356b2dabb899d2ec", func := "loop.example/g00489/laws.FnDearer", spec := "fnDearer", unfollowed := true, recurses := true, apart := false, narrowed := true }
def FnDearerUptoSaid : Prop := fnDearerUptoRow.holds Tryz.pinned (OpenSpec.upto fnDearerSpec)

end Rows
end Go.Proofs.YtglpgohilfoecaaGreat
