/-
  No cell of these rows narrows 'for every input' (looked for: loops, veiled, ifaces, maps, wideKeys, modest, calm, conditions, laid).
  DERIVED. THE GIVEN ROWS OF THIS SEAT. 11 by the template 'for every input the law returns true; each argument reads behind the call as it read before'; 0 by the template 'total and deterministic' (their statements: YtihgahmdofpfmaaTotals.lean).
  GIVEN WITH THE SEED: the statements are not yours to turn. If you find one false, say at which input.
  Laid BY PROGRAM, IN A SANDBOX (cutbox-rows.mjs): the forced cells as the released guide's own fill.sh prints them over the translation 2527e22dbcaf4c18… (all of the seat's roots in one cut). By AI agents, Wed Nov 11 2026. No macro, syntax, notation, axiom, sorry.
-/
import Derived.Test.YtihgahmdofpfmaaChecked
import GoSem.Claim
import GoSem.ClaimJoined
import GoSem.ClaimMapViews
import Derived.JoinedTies
import Derived.KernelRfl
namespace Go.Proofs.Ytihgahmdofpfmaa
/- THE CELL 'sum', in the pinned program and in every row, IS THE sha256 OF THE DUMP (.gsa) THAT YtihgahmdofpfmaaProg.lean LOADS. Nothing in Lean hashes anything: it is a label: what it is worth is what the hold of that sum in a sandbox is worth. -/
noncomputable def Try.pinned : Pinned := { name := "ytihgahmdofpfmaa", sum := "2527e22dbcaf4c185d6cac2945c47080e22bf525b007e7b0519c5f7d875a0dfe", checked := Try.checked }
namespace Rows
def none {H : Type} : Left H := { results := [], args := [] }

/-- 'laws.FnExactOverlap': WHATEVER THE INPUT: true; the input reads as it did. -/
def fnExactOverlapSpec : ChangeSpec := { name := "fnExactOverlap", fn := fun _ => fun
  | [d1, d2, d3, d4] => { results := [.lit (.bool true)], args := [d1, d2, d3, d4] }
  | _ => none }
def fnExactOverlapRow : OpenClaim := { program := "ytihgahmdofpfmaa", sum := "2527e22dbcaf4c185d6cac2945c47080e22bf525b007e7b0519c5f7d875a0dfe", func := "loop.example/g00489/laws.FnExactOverlap", spec := "fnExactOverlap", apart := false }
def FnExactOverlapSaid : Prop := fnExactOverlapRow.holds Try.pinned (OpenSpec.ofChange fnExactOverlapSpec)

/-- ITS FALSE NEIGHBOUR: 'it returns false'. Refute it at one input. -/
def fnExactOverlapWrong : ChangeSpec := { name := "fnExactOverlap", fn := fun _ => fun
  | [d1, d2, d3, d4] => { results := [.lit (.bool false)], args := [d1, d2, d3, d4] }
  | _ => none }
def FnExactOverlapWrongFalsely : Prop := fnExactOverlapRow.holds Try.pinned (OpenSpec.ofChange fnExactOverlapWrong)

/-- 'laws.FnExactWithin': WHATEVER THE INPUT: true; the input reads as it did. -/
def fnExactWithinSpec : ChangeSpec := { name := "fnExactWithin", fn := fun _ => fun
  | [d1, d2, d3] => { results := [.lit (.bool true)], args := [d1, d2, d3] }
  | _ => none }
def fnExactWithinRow : OpenClaim := { program := "ytihgahmdofpfmaa", sum := "2527e22dbcaf4c185d6cac2945c47080e22bf525b007e7b0519c5f7d875a0dfe", func := "loop.example/g00489/laws.FnExactWithin", spec := "fnExactWithin", apart := false }
def FnExactWithinSaid : Prop := fnExactWithinRow.holds Try.pinned (OpenSpec.ofChange fnExactWithinSpec)

/-- ITS FALSE NEIGHBOUR: 'it returns false'. Refute it at one input. -/
def fnExactWithinWrong : ChangeSpec := { name := "fnExactWithin", fn := fun _ => fun
  | [d1, d2, d3] => { results := [.lit (.bool false)], args := [d1, d2, d3] }
  | _ => none }
def FnExactWithinWrongFalsely : Prop := fnExactWithinRow.holds Try.pinned (OpenSpec.ofChange fnExactWithinWrong)

/-- 'laws.FnWithin': WHATEVER THE INPUT: true; the input reads as it did. -/
def fnWithinSpec : ChangeSpec := { name := "fnWithin", fn := fun _ => fun
  | [d] => { results := [.lit (.bool true)], args := [d] }
  | _ => none }
def fnWithinRow : OpenClaim := { program := "ytihgahmdofpfmaa", sum := "2527e22dbcaf4c185d6cac2945c47080e22bf525b007e7b0519c5f7d875a0dfe", func := "loop.example/g00489/laws.FnWithin", spec := "fnWithin", apart := false }
def FnWithinSaid : Prop := fnWithinRow.holds Try.pinned (OpenSpec.ofChange fnWithinSpec)

/-- ITS FALSE NEIGHBOUR: 'it returns false'. Refute it at one input. -/
def fnWithinWrong : ChangeSpec := { name := "fnWithin", fn := fun _ => fun
  | [d] => { results := [.lit (.bool false)], args := [d] }
  | _ => none }
def FnWithinWrongFalsely : Prop := fnWithinRow.holds Try.pinned (OpenSpec.ofChange fnWithinWrong)

/-- 'laws.FnExactAreaOf': WHATEVER THE INPUT: true; the input reads as it did. -/
def fnExactAreaOfSpec : ChangeSpec := { name := "fnExactAreaOf", fn := fun _ => fun
  | [d] => { results := [.lit (.bool true)], args := [d] }
  | _ => none }
def fnExactAreaOfRow : OpenClaim := { program := "ytihgahmdofpfmaa", sum := "2527e22dbcaf4c185d6cac2945c47080e22bf525b007e7b0519c5f7d875a0dfe", func := "loop.example/g00489/laws.FnExactAreaOf", spec := "fnExactAreaOf", apart := false }
def FnExactAreaOfSaid : Prop := fnExactAreaOfRow.holds Try.pinned (OpenSpec.ofChange fnExactAreaOfSpec)

/-- ITS FALSE NEIGHBOUR: 'it returns false'. Refute it at one input. -/
def fnExactAreaOfWrong : ChangeSpec := { name := "fnExactAreaOf", fn := fun _ => fun
  | [d] => { results := [.lit (.bool false)], args := [d] }
  | _ => none }
def FnExactAreaOfWrongFalsely : Prop := fnExactAreaOfRow.holds Try.pinned (OpenSpec.ofChange fnExactAreaOfWrong)

/-- 'laws.FnExactPallets': WHATEVER THE INPUT: true; the input reads as it did. -/
def fnExactPalletsSpec : ChangeSpec := { name := "fnExactPallets", fn := fun _ => fun
  | [d] => { results := [.lit (.bool true)], args := [d] }
  | _ => none }
def fnExactPalletsRow : OpenClaim := { program := "ytihgahmdofpfmaa", sum := "2527e22dbcaf4c185d6cac2945c47080e22bf525b007e7b0519c5f7d875a0dfe", func := "loop.example/g00489/laws.FnExactPallets", spec := "fnExactPallets", apart := false }
def FnExactPalletsSaid : Prop := fnExactPalletsRow.holds Try.pinned (OpenSpec.ofChange fnExactPalletsSpec)

/-- ITS FALSE NEIGHBOUR: 'it returns false'. Refute it at one input. -/
def fnExactPalletsWrong : ChangeSpec := { name := "fnExactPallets", fn := fun _ => fun
  | [d] => { results := [.lit (.bool false)], args := [d] }
  | _ => none }
def FnExactPalletsWrongFalsely : Prop := fnExactPalletsRow.holds Try.pinned (OpenSpec.ofChange fnExactPalletsWrong)

/-- 'laws.FnOverlaps': WHATEVER THE INPUT: true; the input reads as it did. -/
def fnOverlapsSpec : ChangeSpec := { name := "fnOverlaps", fn := fun _ => fun
  | [d] => { results := [.lit (.bool true)], args := [d] }
  | _ => none }
def fnOverlapsRow : OpenClaim := { program := "ytihgahmdofpfmaa", sum := "2527e22dbcaf4c185d6cac2945c47080e22bf525b007e7b0519c5f7d875a0dfe", func := "loop.example/g00489/laws.FnOverlaps", spec := "fnOverlaps", apart := false }
def FnOverlapsSaid : Prop := fnOverlapsRow.holds Try.pinned (OpenSpec.ofChange fnOverlapsSpec)

/-- ITS FALSE NEIGHBOUR: 'it returns false'. Refute it at one input. -/
def fnOverlapsWrong : ChangeSpec := { name := "fnOverlaps", fn := fun _ => fun
  | [d] => { results := [.lit (.bool false)], args := [d] }
  | _ => none }
def FnOverlapsWrongFalsely : Prop := fnOverlapsRow.holds Try.pinned (OpenSpec.ofChange fnOverlapsWrong)

/-- 'laws.FnExactBoxesOk': WHATEVER THE INPUT: true; the input reads as it did. -/
def fnExactBoxesOkSpec : ChangeSpec := { name := "fnExactBoxesOk", fn := fun _ => fun
  | [d1, d2] => { results := [.lit (.bool true)], args := [d1, d2] }
  | _ => none }
def fnExactBoxesOkRow : OpenClaim := { program := "ytihgahmdofpfmaa", sum := "2527e22dbcaf4c185d6cac2945c47080e22bf525b007e7b0519c5f7d875a0dfe", func := "loop.example/g00489/laws.FnExactBoxesOk", spec := "fnExactBoxesOk", unfollowed := true, recurses := true, apart := false }
def FnExactBoxesOkSaid : Prop := fnExactBoxesOkRow.holds Try.pinned (OpenSpec.ofChange fnExactBoxesOkSpec)

/-- ITS FALSE NEIGHBOUR: 'it returns false'. Refute it at one input. -/
def fnExactBoxesOkWrong : ChangeSpec := { name := "fnExactBoxesOk", fn := fun _ => fun
  | [d1, d2] => { results := [.lit (.bool false)], args := [d1, d2] }
  | _ => none }
def FnExactBoxesOkWrongFalsely : Prop := fnExactBoxesOkRow.holds Try.pinned (OpenSpec.ofChange fnExactBoxesOkWrong)

/-- 'laws.FnExactDepthOf': WHATEVER THE INPUT: true; the input reads as it did. -/
def fnExactDepthOfSpec : ChangeSpec := { name := "fnExactDepthOf", fn := fun _ => fun
  | [d] => { results := [.lit (.bool true)], args := [d] }
  | _ => none }
def fnExactDepthOfRow : OpenClaim := { program := "ytihgahmdofpfmaa", sum := "2527e22dbcaf4c185d6cac2945c47080e22bf525b007e7b0519c5f7d875a0dfe", func := "loop.example/g00489/laws.FnExactDepthOf", spec := "fnExactDepthOf", apart := false }
def FnExactDepthOfSaid : Prop := fnExactDepthOfRow.holds Try.pinned (OpenSpec.ofChange fnExactDepthOfSpec)

/-- ITS FALSE NEIGHBOUR: 'it returns false'. Refute it at one input. -/
def fnExactDepthOfWrong : ChangeSpec := { name := "fnExactDepthOf", fn := fun _ => fun
  | [d] => { results := [.lit (.bool false)], args := [d] }
  | _ => none }
def FnExactDepthOfWrongFalsely : Prop := fnExactDepthOfRow.holds Try.pinned (OpenSpec.ofChange fnExactDepthOfWrong)

/-- 'laws.FnExactStacksOk': WHATEVER THE INPUT: true; the input reads as it did. -/
def fnExactStacksOkSpec : ChangeSpec := { name := "fnExactStacksOk", fn := fun _ => fun
  | [d1, d2] => { results := [.lit (.bool true)], args := [d1, d2] }
  | _ => none }
def fnExactStacksOkRow : OpenClaim := { program := "ytihgahmdofpfmaa", sum := "2527e22dbcaf4c185d6cac2945c47080e22bf525b007e7b0519c5f7d875a0dfe", func := "loop.example/g00489/laws.FnExactStacksOk", spec := "fnExactStacksOk", unfollowed := true, recurses := true, apart := false }
def FnExactStacksOkSaid : Prop := fnExactStacksOkRow.holds Try.pinned (OpenSpec.ofChange fnExactStacksOkSpec)

/-- ITS FALSE NEIGHBOUR: 'it returns false'. Refute it at one input. -/
def fnExactStacksOkWrong : ChangeSpec := { name := "fnExactStacksOk", fn := fun _ => fun
  | [d1, d2] => { results := [.lit (.bool false)], args := [d1, d2] }
  | _ => none }
def FnExactStacksOkWrongFalsely : Prop := fnExactStacksOkRow.holds Try.pinned (OpenSpec.ofChange fnExactStacksOkWrong)

/-- 'laws.FnExactShelvesOk': WHATEVER THE INPUT: true; the input reads as it did. -/
def fnExactShelvesOkSpec : ChangeSpec := { name := "fnExactShelvesOk", fn := fun _ => fun
  | [d1, d2] => { results := [.lit (.bool true)], args := [d1, d2] }
  | _ => none }
def fnExactShelvesOkRow : OpenClaim := { program := "ytihgahmdofpfmaa", sum := "2527e22dbcaf4c185d6cac2945c47080e22bf525b007e7b0519c5f7d875a0dfe", func := "loop.example/g00489/laws.FnExactShelvesOk", spec := "fnExactShelvesOk", unfollowed := true, recurses := true, apart := false }
def FnExactShelvesOkSaid : Prop := fnExactShelvesOkRow.holds Try.pinned (OpenSpec.ofChange fnExactShelvesOkSpec)

/-- ITS FALSE NEIGHBOUR: 'it returns false'. Refute it at one input. -/
def fnExactShelvesOkWrong : ChangeSpec := { name := "fnExactShelvesOk", fn := fun _ => fun
  | [d1, d2] => { results := [.lit (.bool false)], args := [d1, d2] }
  | _ => none }
def FnExactShelvesOkWrongFalsely : Prop := fnExactShelvesOkRow.holds Try.pinned (OpenSpec.ofChange fnExactShelvesOkWrong)

/-- 'laws.FnExactPlanOk': WHATEVER THE INPUT: true; the input reads as it did. -/
def fnExactPlanOkSpec : ChangeSpec := { name := "fnExactPlanOk", fn := fun _ => fun
  | [d] => { results := [.lit (.bool true)], args := [d] }
  | _ => none }
def fnExactPlanOkRow : OpenClaim := { program := "ytihgahmdofpfmaa", sum := "2527e22dbcaf4c185d6cac2945c47080e22bf525b007e7b0519c5f7d875a0dfe", func := "loop.example/g00489/laws.FnExactPlanOk", spec := "fnExactPlanOk", apart := false }
def FnExactPlanOkSaid : Prop := fnExactPlanOkRow.holds Try.pinned (OpenSpec.ofChange fnExactPlanOkSpec)

/-- ITS FALSE NEIGHBOUR: 'it returns false'. Refute it at one input. -/
def fnExactPlanOkWrong : ChangeSpec := { name := "fnExactPlanOk", fn := fun _ => fun
  | [d] => { results := [.lit (.bool false)], args := [d] }
  | _ => none }
def FnExactPlanOkWrongFalsely : Prop := fnExactPlanOkRow.holds Try.pinned (OpenSpec.ofChange fnExactPlanOkWrong)

/- THE SECOND FORM. 'bulk': how many values and letters a reading holds, each counted each time it is reached (what is shared counts as often as it is met; a slice's spare places count too). A statement '..UptoSaid' is the law's where the arguments, and the package variables that the reading takes, are together of bulk at most 1048576: NARROWER than '..Said'. Prove '..Said' where nothing that the law and all that it calls make is longer than what came in: it says more and counts as full. Else prove '..UptoSaid'. A law counts once. -/
mutual
def uptoBulk {H : Type} : DataW H → Nat
  | .lit (.string bytes) => bytes.length + 1
  | .lit _ => 1
  | .nil => 1
  | .ptr d => uptoBulk d + 1
  | .slice elems spare => uptoBulkAll elems + uptoBulkAll spare + 1
  | .agg parts => uptoBulkAll parts + 1
  | .iface _ d => uptoBulk d + 1
  | .map entries => uptoBulkEntries entries + 1
  | .held _ => 1
def uptoBulkAll {H : Type} : List (DataW H) → Nat
  | [] => 0
  | d :: r => uptoBulk d + uptoBulkAll r
def uptoBulkEntries {H : Type} : List (Lit × DataW H) → Nat
  | [] => 0
  | x :: r => uptoBulkEntry x + uptoBulkEntries r
def uptoBulkEntry {H : Type} : Lit × DataW H → Nat
  | (.string bytes, d) => bytes.length + uptoBulk d + 1
  | (_, d) => uptoBulk d + 1
 end
def uptoSmall : (H : Type) → List (DataW H) → Bool := fun _ ds => decide (uptoBulkAll ds ≤ 1048576)
def OpenSpec.upto (s : _root_.Go.ChangeSpec) : _root_.Go.OpenSpec := { _root_.Go.OpenSpec.ofChange s with cond := some uptoSmall }

/-- 'laws.FnExactOverlap', WHERE WHAT IT READS IS OF BULK AT MOST 1048576: true; the input reads as it did. -/
def fnExactOverlapUptoRow : OpenClaim := { program := "ytihgahmdofpfmaa", sum := "2527e22dbcaf4c185d6cac2945c47080e22bf525b007e7b0519c5f7d875a0dfe", func := "loop.example/g00489/laws.FnExactOverlap", spec := "fnExactOverlap", apart := false, narrowed := true }
def FnExactOverlapUptoSaid : Prop := fnExactOverlapUptoRow.holds Try.pinned (OpenSpec.upto fnExactOverlapSpec)

/-- 'laws.FnExactWithin', WHERE WHAT IT READS IS OF BULK AT MOST 1048576: true; the input reads as it did. -/
def fnExactWithinUptoRow : OpenClaim := { program := "ytihgahmdofpfmaa", sum := "2527e22dbcaf4c185d6cac2945c47080e22bf525b007e7b0519c5f7d875a0dfe", func := "loop.example/g00489/laws.FnExactWithin", spec := "fnExactWithin", apart := false, narrowed := true }
def FnExactWithinUptoSaid : Prop := fnExactWithinUptoRow.holds Try.pinned (OpenSpec.upto fnExactWithinSpec)

/-- 'laws.FnWithin', WHERE WHAT IT READS IS OF BULK AT MOST 1048576: true; the input reads as it did. -/
def fnWithinUptoRow : OpenClaim := { program := "ytihgahmdofpfmaa", sum := "2527e22dbcaf4c185d6cac2945c47080e22bf525b007e7b0519c5f7d875a0dfe", func := "loop.example/g00489/laws.FnWithin", spec := "fnWithin", apart := false, narrowed := true }
def FnWithinUptoSaid : Prop := fnWithinUptoRow.holds Try.pinned (OpenSpec.upto fnWithinSpec)

/-- 'laws.FnExactAreaOf', WHERE WHAT IT READS IS OF BULK AT MOST 1048576: true; the input reads as it did. -/
def fnExactAreaOfUptoRow : OpenClaim := { program := "ytihgahmdofpfmaa", sum := "2527e22dbcaf4c185d6cac2945c47080e22bf525b007e7b0519c5f7d875a0dfe", func := "loop.example/g00489/laws.FnExactAreaOf", spec := "fnExactAreaOf", apart := false, narrowed := true }
def FnExactAreaOfUptoSaid : Prop := fnExactAreaOfUptoRow.holds Try.pinned (OpenSpec.upto fnExactAreaOfSpec)

/-- 'laws.FnExactPallets', WHERE WHAT IT READS IS OF BULK AT MOST 1048576: true; the input reads as it did. -/
def fnExactPalletsUptoRow : OpenClaim := { program := "ytihgahmdofpfmaa", sum := "2527e22dbcaf4c185d6cac2945c47080e22bf525b007e7b0519c5f7d875a0dfe", func := "loop.example/g00489/laws.FnExactPallets", spec := "fnExactPallets", apart := false, narrowed := true }
def FnExactPalletsUptoSaid : Prop := fnExactPalletsUptoRow.holds Try.pinned (OpenSpec.upto fnExactPalletsSpec)

/-- 'laws.FnOverlaps', WHERE WHAT IT READS IS OF BULK AT MOST 1048576: true; the input reads as it did. -/
def fnOverlapsUptoRow : OpenClaim := { program := "ytihgahmdofpfmaa", sum := "2527e22dbcaf4c185d6cac2945c47080e22bf525b007e7b0519c5f7d875a0dfe", func := "loop.example/g00489/laws.FnOverlaps", spec := "fnOverlaps", apart := false, narrowed := true }
def FnOverlapsUptoSaid : Prop := fnOverlapsUptoRow.holds Try.pinned (OpenSpec.upto fnOverlapsSpec)

/-- 'laws.FnExactBoxesOk', WHERE WHAT IT READS IS OF BULK AT MOST 1048576: true; the input reads as it did. -/
def fnExactBoxesOkUptoRow : OpenClaim := { program := "ytihgahmdofpfmaa", sum := "2527e22dbcaf4c185d6cac2945c47080e22bf525b007e7b0519c5f7d875a0dfe", func := "loop.example/g00489/laws.FnExactBoxesOk", spec := "fnExactBoxesOk", unfollowed := true, recurses := true, apart := false, narrowed := true }
def FnExactBoxesOkUptoSaid : Prop := fnExactBoxesOkUptoRow.holds Try.pinned (OpenSpec.upto fnExactBoxesOkSpec)

/-- 'laws.FnExactDepthOf', WHERE WHAT IT READS IS OF BULK AT MOST 1048576: true; the input reads as it did. -/
def fnExactDepthOfUptoRow : OpenClaim := { program := "ytihgahmdofpfmaa", sum := "2527e22dbcaf4c185d6cac2945c47080e22bf525b007e7b0519c5f7d875a0dfe", func := "loop.example/g00489/laws.FnExactDepthOf", spec := "fnExactDepthOf", apart := false, narrowed := true }
def FnExactDepthOfUptoSaid : Prop := fnExactDepthOfUptoRow.holds Try.pinned (OpenSpec.upto fnExactDepthOfSpec)

/-- 'laws.FnExactStacksOk', WHERE WHAT IT READS IS OF BULK AT MOST 1048576: true; the input reads as it did. -/
def fnExactStacksOkUptoRow : OpenClaim := { program := "ytihgahmdofpfmaa", sum := "2527e22dbcaf4c185d6cac2945c47080e22bf525b007e7b0519c5f7d875a0dfe", func := "loop.example/g00489/laws.FnExactStacksOk", spec := "fnExactStacksOk", unfollowed := true, recurses := true, apart := false, narrowed := true }
def FnExactStacksOkUptoSaid : Prop := fnExactStacksOkUptoRow.holds Try.pinned (OpenSpec.upto fnExactStacksOkSpec)

/-- 'laws.FnExactShelvesOk', WHERE WHAT IT READS IS OF BULK AT MOST 1048576: true; the input reads as it did. -/
def fnExactShelvesOkUptoRow : OpenClaim := { program := "ytihgahmdofpfmaa", sum := "2527e22dbcaf4c185d6cac2945c47080e22bf525b007e7b0519c5f7d875a0dfe", func := "loop.example/g00489/laws.FnExactShelvesOk", spec := "fnExactShelvesOk", unfollowed := true, recurses := true, apart := false, narrowed := true }
def FnExactShelvesOkUptoSaid : Prop := fnExactShelvesOkUptoRow.holds Try.pinned (OpenSpec.upto fnExactShelvesOkSpec)

/-- 'laws.FnExactPlanOk', WHERE WHAT IT READS IS OF BULK AT MOST 1048576: true; the input reads as it did. -/
def fnExactPlanOkUptoRow : OpenClaim := { program := "ytihgahmdofpfmaa", sum := "2527e22dbcaf4c185d6cac2945c47080e22bf525b007e7b0519c5f7d875a0dfe", func := "loop.example/g00489/laws.FnExactPlanOk", spec := "fnExactPlanOk", apart := false, narrowed := true }
def FnExactPlanOkUptoSaid : Prop := fnExactPlanOkUptoRow.holds Try.pinned (OpenSpec.upto fnExactPlanOkSpec)

end Rows
end Go.Proofs.Ytihgahmdofpfmaa
