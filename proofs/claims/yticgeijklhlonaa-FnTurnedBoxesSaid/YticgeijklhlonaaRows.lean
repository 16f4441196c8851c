/-
  No cell of these rows narrows 'for every input' (looked for: loops, veiled, ifaces, maps, wideKeys, modest, calm, conditions, laid).
  DERIVED. THE GIVEN ROWS OF THIS SEAT. 13 by the template 'for every input the law returns true; each argument reads behind the call as it read before'; 0 by the template 'total and deterministic' (their statements: YticgeijklhlonaaTotals.lean).
  GIVEN WITH THE SEED: the statements are not yours to turn. If you find one false, say at which input.
  Laid BY PROGRAM, IN A SANDBOX (cutbox-rows.mjs): the forced cells as the released guide's own fill.sh prints them over the translation 39f90869715d891e… (all of the seat's roots in one cut). By AI agents, Wed Nov 11 2026. No macro, syntax, notation, axiom, sorry.
-/
import Derived.Test.YticgeijklhlonaaChecked
import GoSem.Claim
import GoSem.ClaimJoined
import GoSem.ClaimMapViews
import Derived.JoinedTies
import Derived.KernelRfl
namespace Go.Proofs.Yticgeijklhlonaa
/- THE CELL 'sum', in the pinned program and in every row, IS THE sha256 OF THE DUMP (.gsa) THAT YticgeijklhlonaaProg.lean LOADS. Nothing in Lean hashes anything: it is a label: what it is worth is what the hold of that sum in a sandbox is worth. -/
noncomputable def Try.pinned : Pinned := { name := "yticgeijklhlonaa", sum := "39f90869715d891e7ab5eba5b561ca8a82cb9adc8c30953ce7081780535af8e6", checked := Try.checked }
namespace Rows
def none {H : Type} : Left H := { results := [], args := [] }

/-- 'laws.FnWithin': WHATEVER THE INPUT: true; the input reads as it did. -/
def fnWithinSpec : ChangeSpec := { name := "fnWithin", fn := fun _ => fun
  | [d] => { results := [.lit (.bool true)], args := [d] }
  | _ => none }
def fnWithinRow : OpenClaim := { program := "yticgeijklhlonaa", sum := "39f90869715d891e7ab5eba5b561ca8a82cb9adc8c30953ce7081780535af8e6", func := "loop.example/g00489/laws.FnWithin", spec := "fnWithin", apart := false }
def FnWithinSaid : Prop := fnWithinRow.holds Try.pinned (OpenSpec.ofChange fnWithinSpec)

/-- ITS FALSE NEIGHBOUR: 'it returns false'. Refute it at one input. -/
def fnWithinWrong : ChangeSpec := { name := "fnWithin", fn := fun _ => fun
  | [d] => { results := [.lit (.bool false)], args := [d] }
  | _ => none }
def FnWithinWrongFalsely : Prop := fnWithinRow.holds Try.pinned (OpenSpec.ofChange fnWithinWrong)

/-- 'laws.FnOverlaps': WHATEVER THE INPUT: true; the input reads as it did. -/
def fnOverlapsSpec : ChangeSpec := { name := "fnOverlaps", fn := fun _ => fun
  | [d] => { results := [.lit (.bool true)], args := [d] }
  | _ => none }
def fnOverlapsRow : OpenClaim := { program := "yticgeijklhlonaa", sum := "39f90869715d891e7ab5eba5b561ca8a82cb9adc8c30953ce7081780535af8e6", func := "loop.example/g00489/laws.FnOverlaps", spec := "fnOverlaps", apart := false }
def FnOverlapsSaid : Prop := fnOverlapsRow.holds Try.pinned (OpenSpec.ofChange fnOverlapsSpec)

/-- ITS FALSE NEIGHBOUR: 'it returns false'. Refute it at one input. -/
def fnOverlapsWrong : ChangeSpec := { name := "fnOverlaps", fn := fun _ => fun
  | [d] => { results := [.lit (.bool false)], args := [d] }
  | _ => none }
def FnOverlapsWrongFalsely : Prop := fnOverlapsRow.holds Try.pinned (OpenSpec.ofChange fnOverlapsWrong)

/-- 'laws.FnExactPlanSame': WHATEVER THE INPUT: true; the input reads as it did. -/
def fnExactPlanSameSpec : ChangeSpec := { name := "fnExactPlanSame", fn := fun _ => fun
  | [d1, d2] => { results := [.lit (.bool true)], args := [d1, d2] }
  | _ => none }
def fnExactPlanSameRow : OpenClaim := { program := "yticgeijklhlonaa", sum := "39f90869715d891e7ab5eba5b561ca8a82cb9adc8c30953ce7081780535af8e6", func := "loop.example/g00489/laws.FnExactPlanSame", spec := "fnExactPlanSame", unfollowed := true, recurses := true, apart := false }
def FnExactPlanSameSaid : Prop := fnExactPlanSameRow.holds Try.pinned (OpenSpec.ofChange fnExactPlanSameSpec)

/-- ITS FALSE NEIGHBOUR: 'it returns false'. Refute it at one input. -/
def fnExactPlanSameWrong : ChangeSpec := { name := "fnExactPlanSame", fn := fun _ => fun
  | [d1, d2] => { results := [.lit (.bool false)], args := [d1, d2] }
  | _ => none }
def FnExactPlanSameWrongFalsely : Prop := fnExactPlanSameRow.holds Try.pinned (OpenSpec.ofChange fnExactPlanSameWrong)

/-- 'laws.FnExactOnPallet': WHATEVER THE INPUT: true; the input reads as it did. -/
def fnExactOnPalletSpec : ChangeSpec := { name := "fnExactOnPallet", fn := fun _ => fun
  | [d1, d2] => { results := [.lit (.bool true)], args := [d1, d2] }
  | _ => none }
def fnExactOnPalletRow : OpenClaim := { program := "yticgeijklhlonaa", sum := "39f90869715d891e7ab5eba5b561ca8a82cb9adc8c30953ce7081780535af8e6", func := "loop.example/g00489/laws.FnExactOnPallet", spec := "fnExactOnPallet", apart := false }
def FnExactOnPalletSaid : Prop := fnExactOnPalletRow.holds Try.pinned (OpenSpec.ofChange fnExactOnPalletSpec)

/-- ITS FALSE NEIGHBOUR: 'it returns false'. Refute it at one input. -/
def fnExactOnPalletWrong : ChangeSpec := { name := "fnExactOnPallet", fn := fun _ => fun
  | [d1, d2] => { results := [.lit (.bool false)], args := [d1, d2] }
  | _ => none }
def FnExactOnPalletWrongFalsely : Prop := fnExactOnPalletRow.holds Try.pinned (OpenSpec.ofChange fnExactOnPalletWrong)

/-- 'laws.FnStacks': WHATEVER THE INPUT: true; the input reads as it did. -/
def fnStacksSpec : ChangeSpec := { name := "fnStacks", fn := fun _ => fun
  | [d] => { results := [.lit (.bool true)], args := [d] }
  | _ => none }
def fnStacksRow : OpenClaim := { program := "yticgeijklhlonaa", sum := "39f90869715d891e7ab5eba5b561ca8a82cb9adc8c30953ce7081780535af8e6", func := "loop.example/g00489/laws.FnStacks", spec := "fnStacks", unfollowed := true, recurses := true, apart := false }
def FnStacksSaid : Prop := fnStacksRow.holds Try.pinned (OpenSpec.ofChange fnStacksSpec)

/-- ITS FALSE NEIGHBOUR: 'it returns false'. Refute it at one input. -/
def fnStacksWrong : ChangeSpec := { name := "fnStacks", fn := fun _ => fun
  | [d] => { results := [.lit (.bool false)], args := [d] }
  | _ => none }
def FnStacksWrongFalsely : Prop := fnStacksRow.holds Try.pinned (OpenSpec.ofChange fnStacksWrong)

/-- 'laws.FnExactLoadsOf': WHATEVER THE INPUT: true; the input reads as it did. -/
def fnExactLoadsOfSpec : ChangeSpec := { name := "fnExactLoadsOf", fn := fun _ => fun
  | [d1, d2] => { results := [.lit (.bool true)], args := [d1, d2] }
  | _ => none }
def fnExactLoadsOfRow : OpenClaim := { program := "yticgeijklhlonaa", sum := "39f90869715d891e7ab5eba5b561ca8a82cb9adc8c30953ce7081780535af8e6", func := "loop.example/g00489/laws.FnExactLoadsOf", spec := "fnExactLoadsOf", unfollowed := true, recurses := true, apart := false }
def FnExactLoadsOfSaid : Prop := fnExactLoadsOfRow.holds Try.pinned (OpenSpec.ofChange fnExactLoadsOfSpec)

/-- ITS FALSE NEIGHBOUR: 'it returns false'. Refute it at one input. -/
def fnExactLoadsOfWrong : ChangeSpec := { name := "fnExactLoadsOf", fn := fun _ => fun
  | [d1, d2] => { results := [.lit (.bool false)], args := [d1, d2] }
  | _ => none }
def FnExactLoadsOfWrongFalsely : Prop := fnExactLoadsOfRow.holds Try.pinned (OpenSpec.ofChange fnExactLoadsOfWrong)

/-- 'laws.FnExactLayersOf': WHATEVER THE INPUT: true; the input reads as it did. -/
def fnExactLayersOfSpec : ChangeSpec := { name := "fnExactLayersOf", fn := fun _ => fun
  | [d1, d2] => { results := [.lit (.bool true)], args := [d1, d2] }
  | _ => none }
def fnExactLayersOfRow : OpenClaim := { program := "yticgeijklhlonaa", sum := "39f90869715d891e7ab5eba5b561ca8a82cb9adc8c30953ce7081780535af8e6", func := "loop.example/g00489/laws.FnExactLayersOf", spec := "fnExactLayersOf", unfollowed := true, recurses := true, apart := false }
def FnExactLayersOfSaid : Prop := fnExactLayersOfRow.holds Try.pinned (OpenSpec.ofChange fnExactLayersOfSpec)

/-- ITS FALSE NEIGHBOUR: 'it returns false'. Refute it at one input. -/
def fnExactLayersOfWrong : ChangeSpec := { name := "fnExactLayersOf", fn := fun _ => fun
  | [d1, d2] => { results := [.lit (.bool false)], args := [d1, d2] }
  | _ => none }
def FnExactLayersOfWrongFalsely : Prop := fnExactLayersOfRow.holds Try.pinned (OpenSpec.ofChange fnExactLayersOfWrong)

/-- 'laws.FnShelfNeed': WHATEVER THE INPUT: true; the input reads as it did. -/
def fnShelfNeedSpec : ChangeSpec := { name := "fnShelfNeed", fn := fun _ => fun
  | [d] => { results := [.lit (.bool true)], args := [d] }
  | _ => none }
def fnShelfNeedRow : OpenClaim := { program := "yticgeijklhlonaa", sum := "39f90869715d891e7ab5eba5b561ca8a82cb9adc8c30953ce7081780535af8e6", func := "loop.example/g00489/laws.FnShelfNeed", spec := "fnShelfNeed", unfollowed := true, recurses := true, apart := false }
def FnShelfNeedSaid : Prop := fnShelfNeedRow.holds Try.pinned (OpenSpec.ofChange fnShelfNeedSpec)

/-- ITS FALSE NEIGHBOUR: 'it returns false'. Refute it at one input. -/
def fnShelfNeedWrong : ChangeSpec := { name := "fnShelfNeed", fn := fun _ => fun
  | [d] => { results := [.lit (.bool false)], args := [d] }
  | _ => none }
def FnShelfNeedWrongFalsely : Prop := fnShelfNeedRow.holds Try.pinned (OpenSpec.ofChange fnShelfNeedWrong)

/-- 'laws.FnShelves': WHATEVER THE INPUT: true; the input reads as it did. -/
def fnShelvesSpec : ChangeSpec := { name := "fnShelves", fn := fun _ => fun
  | [d] => { results := [.lit (.bool true)], args := [d] }
  | _ => none }
def fnShelvesRow : OpenClaim := { program := "yticgeijklhlonaa", sum := "39f90869715d891e7ab5eba5b561ca8a82cb9adc8c30953ce7081780535af8e6", func := "loop.example/g00489/laws.FnShelves", spec := "fnShelves", unfollowed := true, recurses := true, apart := false }
def FnShelvesSaid : Prop := fnShelvesRow.holds Try.pinned (OpenSpec.ofChange fnShelvesSpec)

/-- ITS FALSE NEIGHBOUR: 'it returns false'. Refute it at one input. -/
def fnShelvesWrong : ChangeSpec := { name := "fnShelves", fn := fun _ => fun
  | [d] => { results := [.lit (.bool false)], args := [d] }
  | _ => none }
def FnShelvesWrongFalsely : Prop := fnShelvesRow.holds Try.pinned (OpenSpec.ofChange fnShelvesWrong)

/-- 'laws.FnTurnedBoxes': WHATEVER THE INPUT: true; the input reads as it did. -/
def fnTurnedBoxesSpec : ChangeSpec := { name := "fnTurnedBoxes", fn := fun _ => fun
  | [d] => { results := [.lit (.bool true)], args := [d] }
  | _ => none }
def fnTurnedBoxesRow : OpenClaim := { program := "yticgeijklhlonaa", sum := "39f90869715d891e7ab5eba5b561ca8a82cb9adc8c30953ce7081780535af8e6", func := "loop.example/g00489/laws.FnTurnedBoxes", spec := "fnTurnedBoxes", unfollowed := true, recurses := true, apart := false }
def FnTurnedBoxesSaid : Prop := fnTurnedBoxesRow.holds Try.pinned (OpenSpec.ofChange fnTurnedBoxesSpec)

/-- ITS FALSE NEIGHBOUR: 'it returns false'. Refute it at one input. -/
def fnTurnedBoxesWrong : ChangeSpec := { name := "fnTurnedBoxes", fn := fun _ => fun
  | [d] => { results := [.lit (.bool false)], args := [d] }
  | _ => none }
def FnTurnedBoxesWrongFalsely : Prop := fnTurnedBoxesRow.holds Try.pinned (OpenSpec.ofChange fnTurnedBoxesWrong)

/-- 'laws.FnExactShelves': WHATEVER THE INPUT: true; the input reads as it did. -/
def fnExactShelvesSpec : ChangeSpec := { name := "fnExactShelves", fn := fun _ => fun
  | [d1, d2] => { results := [.lit (.bool true)], args := [d1, d2] }
  | _ => none }
def fnExactShelvesRow : OpenClaim := { program := "yticgeijklhlonaa", sum := "39f90869715d891e7ab5eba5b561ca8a82cb9adc8c30953ce7081780535af8e6", func := "loop.example/g00489/laws.FnExactShelves", spec := "fnExactShelves", unfollowed := true, recurses := true, apart := false }
def FnExactShelvesSaid : Prop := fnExactShelvesRow.holds Try.pinned (OpenSpec.ofChange fnExactShelvesSpec)

/-- ITS FALSE NEIGHBOUR: 'it returns false'. Refute it at one input. -/
def fnExactShelvesWrong : ChangeSpec := { name := "fnExactShelves", fn := fun _ => fun
  | [d1, d2] => { results := [.lit (.bool false)], args := [d1, d2] }
  | _ => none }
def FnExactShelvesWrongFalsely : Prop := fnExactShelvesRow.holds Try.pinned (OpenSpec.ofChange fnExactShelvesWrong)

/-- 'laws.FnApart': WHATEVER THE INPUT: true; the input reads as it did. -/
def fnApartSpec : ChangeSpec := { name := "fnApart", fn := fun _ => fun
  | [d] => { results := [.lit (.bool true)], args := [d] }
  | _ => none }
def fnApartRow : OpenClaim := { program := "yticgeijklhlonaa", sum := "39f90869715d891e7ab5eba5b561ca8a82cb9adc8c30953ce7081780535af8e6", func := "loop.example/g00489/laws.FnApart", spec := "fnApart", unfollowed := true, recurses := true, apart := false }
def FnApartSaid : Prop := fnApartRow.holds Try.pinned (OpenSpec.ofChange fnApartSpec)

/-- ITS FALSE NEIGHBOUR: 'it returns false'. Refute it at one input. -/
def fnApartWrong : ChangeSpec := { name := "fnApart", fn := fun _ => fun
  | [d] => { results := [.lit (.bool false)], args := [d] }
  | _ => none }
def FnApartWrongFalsely : Prop := fnApartRow.holds Try.pinned (OpenSpec.ofChange fnApartWrong)

/-- 'laws.FnExactSpotsOf': WHATEVER THE INPUT: true; the input reads as it did. -/
def fnExactSpotsOfSpec : ChangeSpec := { name := "fnExactSpotsOf", fn := fun _ => fun
  | [d1, d2] => { results := [.lit (.bool true)], args := [d1, d2] }
  | _ => none }
def fnExactSpotsOfRow : OpenClaim := { program := "yticgeijklhlonaa", sum := "39f90869715d891e7ab5eba5b561ca8a82cb9adc8c30953ce7081780535af8e6", func := "loop.example/g00489/laws.FnExactSpotsOf", spec := "fnExactSpotsOf", unfollowed := true, recurses := true, apart := false }
def FnExactSpotsOfSaid : Prop := fnExactSpotsOfRow.holds Try.pinned (OpenSpec.ofChange fnExactSpotsOfSpec)

/-- ITS FALSE NEIGHBOUR: 'it returns false'. Refute it at one input. -/
def fnExactSpotsOfWrong : ChangeSpec := { name := "fnExactSpotsOf", fn := fun _ => fun
  | [d1, d2] => { results := [.lit (.bool false)], args := [d1, d2] }
  | _ => none }
def FnExactSpotsOfWrongFalsely : Prop := fnExactSpotsOfRow.holds Try.pinned (OpenSpec.ofChange fnExactSpotsOfWrong)

/- THE SECOND FORM. 'bulk': how many values and letters a reading holds, each counted each time it is reached (what is shared counts as often as it is met; a slice's spare places count too). A statement '..UptoSaid' is the law's where the arguments, and the package variables that the reading takes, are together of bulk at most 1048576: NARROWER than '..Said'. Prove '..Said' where nothing that the law and all that it calls make is longer than what came in: it says more and counts as full. Else prove '..UptoSaid'. A law counts once. -/
mutual
def uptoBulk {H : Type} : DataW H → Nat
  | .lit (.string bytes) => bytes.length + 1
  | .lit _ => 1
  | .nil => 1
  | .ptr d => uptoBulk d + 1
  | .slice elems spare => uptoBulkAll elems + uptoBulkAll spare + 1
  | .agg parts => uptoBulkAll parts + 1
  | .iface _ d => uptoBulk d + 1
  | .map entries => uptoBulkEntries entries + 1
  | .held _ => 1
def uptoBulkAll {H : Type} : List (DataW H) → Nat
  | [] => 0
  | d :: r => uptoBulk d + uptoBulkAll r
def uptoBulkEntries {H : Type} : List (Lit × DataW H) → Nat
  | [] => 0
  | x :: r => uptoBulkEntry x + uptoBulkEntries r
def uptoBulkEntry {H : Type} : Lit × DataW H → Nat
  | (.string bytes, d) => bytes.length + uptoBulk d + 1
  | (_, d) => uptoBulk d + 1
 end
def uptoSmall : (H : Type) → List (DataW H) → Bool := fun _ ds => decide (uptoBulkAll ds ≤ 1048576)
def OpenSpec.upto (s : _root_.Go.ChangeSpec) : _root_.Go.OpenSpec := { _root_.Go.OpenSpec.ofChange s with cond := some uptoSmall }

/-- 'laws.FnWithin', WHERE WHAT IT READS IS OF BULK AT MOST 1048576: true; the input reads as it did. -/
def fnWithinUptoRow : OpenClaim := { program := "yticgeijklhlonaa", sum := "39f90869715d891e7ab5eba5b561ca8a82cb9adc8c30953ce7081780535af8e6", func := "loop.example/g00489/laws.FnWithin", spec := "fnWithin", apart := false, narrowed := true }
def FnWithinUptoSaid : Prop := fnWithinUptoRow.holds Try.pinned (OpenSpec.upto fnWithinSpec)

/-- 'laws.FnOverlaps', WHERE WHAT IT READS IS OF BULK AT MOST 1048576: true; the input reads as it did. -/
def fnOverlapsUptoRow : OpenClaim := { program := "yticgeijklhlonaa", sum := "39f90869715d891e7ab5eba5b561ca8a82cb9adc8c30953ce7081780535af8e6", func := "loop.example/g00489/laws.FnOverlaps", spec := "fnOverlaps", apart := false, narrowed := true }
def FnOverlapsUptoSaid : Prop := fnOverlapsUptoRow.holds Try.pinned (OpenSpec.upto fnOverlapsSpec)

/-- 'laws.FnExactPlanSame', WHERE WHAT IT READS IS OF BULK AT MOST 1048576: true; the input reads as it did. -/
def fnExactPlanSameUptoRow : OpenClaim := { program := "yticgeijklhlonaa", sum := "39f90869715d891e7ab5eba5b561ca8a82cb9adc8c30953ce7081780535af8e6", func := "loop.example/g00489/laws.FnExactPlanSame", spec := "fnExactPlanSame", unfollowed := true, recurses := true, apart := false, narrowed := true }
def FnExactPlanSameUptoSaid : Prop := fnExactPlanSameUptoRow.holds Try.pinned (OpenSpec.upto fnExactPlanSameSpec)

/-- 'laws.FnExactOnPallet', WHERE WHAT IT READS IS OF BULK AT MOST 1048576: true; the input reads as it did. -/
def fnExactOnPalletUptoRow : OpenClaim := { program := "yticgeijklhlonaa", sum := "39f90869715d891e7ab5eba5b561ca8a82cb9adc8c30953ce7081780535af8e6", func := "loop.example/g00489/laws.FnExactOnPallet", spec := "fnExactOnPallet", apart := false, narrowed := true }
def FnExactOnPalletUptoSaid : Prop := fnExactOnPalletUptoRow.holds Try.pinned (OpenSpec.upto fnExactOnPalletSpec)

/-- 'laws.FnStacks', WHERE WHAT IT READS IS OF BULK AT MOST 1048576: true; the input reads as it did. -/
def fnStacksUptoRow : OpenClaim := { program := "yticgeijklhlonaa", sum := "39f90869715d891e7ab5eba5b561ca8a82cb9adc8c30953ce7081780535af8e6", func := "loop.example/g00489/laws.FnStacks", spec := "fnStacks", unfollowed := true, recurses := true, apart := false, narrowed := true }
def FnStacksUptoSaid : Prop := fnStacksUptoRow.holds Try.pinned (OpenSpec.upto fnStacksSpec)

/-- 'laws.FnExactLoadsOf', WHERE WHAT IT READS IS OF BULK AT MOST 1048576: true; the input reads as it did. -/
def fnExactLoadsOfUptoRow : OpenClaim := { program := "yticgeijklhlonaa", sum := "39f90869715d891e7ab5eba5b561ca8a82cb9adc8c30953ce7081780535af8e6", func := "loop.example/g00489/laws.FnExactLoadsOf", spec := "fnExactLoadsOf", unfollowed := true, recurses := true, apart := false, narrowed := true }
def FnExactLoadsOfUptoSaid : Prop := fnExactLoadsOfUptoRow.holds Try.pinned (OpenSpec.upto fnExactLoadsOfSpec)

/-- 'laws.FnExactLayersOf', WHERE WHAT IT READS IS OF BULK AT MOST 1048576: true; the input reads as it did. -/
def fnExactLayersOfUptoRow : OpenClaim := { program := "yticgeijklhlonaa", sum := "39f90869715d891e7ab5eba5b561ca8a82cb9adc8c30953ce7081780535af8e6", func := "loop.example/g00489/laws.FnExactLayersOf", spec := "fnExactLayersOf", unfollowed := true, recurses := true, apart := false, narrowed := true }
def FnExactLayersOfUptoSaid : Prop := fnExactLayersOfUptoRow.holds Try.pinned (OpenSpec.upto fnExactLayersOfSpec)

/-- 'laws.FnShelfNeed', WHERE WHAT IT READS IS OF BULK AT MOST 1048576: true; the input reads as it did. -/
def fnShelfNeedUptoRow : OpenClaim := { program := "yticgeijklhlonaa", sum := "39f90869715d891e7ab5eba5b561ca8a82cb9adc8c30953ce7081780535af8e6", func := "loop.example/g00489/laws.FnShelfNeed", spec := "fnShelfNeed", unfollowed := true, recurses := true, apart := false, narrowed := true }
def FnShelfNeedUptoSaid : Prop := fnShelfNeedUptoRow.holds Try.pinned (OpenSpec.upto fnShelfNeedSpec)

/-- 'laws.FnShelves', WHERE WHAT IT READS IS OF BULK AT MOST 1048576: true; the input reads as it did. -/
def fnShelvesUptoRow : OpenClaim := { program := "yticgeijklhlonaa", sum := "39f90869715d891e7ab5eba5b561ca8a82cb9adc8c30953ce7081780535af8e6", func := "loop.example/g00489/laws.FnShelves", spec := "fnShelves", unfollowed := true, recurses := true, apart := false, narrowed := true }
def FnShelvesUptoSaid : Prop := fnShelvesUptoRow.holds Try.pinned (OpenSpec.upto fnShelvesSpec)

/-- 'laws.FnTurnedBoxes', WHERE WHAT IT READS IS OF BULK AT MOST 1048576: true; the input reads as it did. -/
def fnTurnedBoxesUptoRow : OpenClaim := { program := "yticgeijklhlonaa", sum := "39f90869715d891e7ab5eba5b561ca8a82cb9adc8c30953ce7081780535af8e6", func := "loop.example/g00489/laws.FnTurnedBoxes", spec := "fnTurnedBoxes", unfollowed := true, recurses := true, apart := false, narrowed := true }
def FnTurnedBoxesUptoSaid : Prop := fnTurnedBoxesUptoRow.holds Try.pinned (OpenSpec.upto fnTurnedBoxesSpec)

/-- 'laws.FnExactShelves', WHERE WHAT IT READS IS OF BULK AT MOST 1048576: true; the input reads as it did. -/
def fnExactShelvesUptoRow : OpenClaim := { program := "yticgeijklhlonaa", sum := "39f90869715d891e7ab5eba5b561ca8a82cb9adc8c30953ce7081780535af8e6", func := "loop.example/g00489/laws.FnExactShelves", spec := "fnExactShelves", unfollowed := true, recurses := true, apart := false, narrowed := true }
def FnExactShelvesUptoSaid : Prop := fnExactShelvesUptoRow.holds Try.pinned (OpenSpec.upto fnExactShelvesSpec)

/-- 'laws.FnApart', WHERE WHAT IT READS IS OF BULK AT MOST 1048576: true; the input reads as it did. -/
def fnApartUptoRow : OpenClaim := { program := "yticgeijklhlonaa", sum := "39f90869715d891e7ab5eba5b561ca8a82cb9adc8c30953ce7081780535af8e6", func := "loop.example/g00489/laws.FnApart", spec := "fnApart", unfollowed := true, recurses := true, apart := false, narrowed := true }
def FnApartUptoSaid : Prop := fnApartUptoRow.holds Try.pinned (OpenSpec.upto fnApartSpec)

/-- 'laws.FnExactSpotsOf', WHERE WHAT IT READS IS OF BULK AT MOST 1048576: true; the input reads as it did. -/
def fnExactSpotsOfUptoRow : OpenClaim := { program := "yticgeijklhlonaa", sum := "39f90869715d891e7ab5eba5b561ca8a82cb9adc8c30953ce7081780535af8e6", func := "loop.example/g00489/laws.FnExactSpotsOf", spec := "fnExactSpotsOf", unfollowed := true, recurses := true, apart := false, narrowed := true }
def FnExactSpotsOfUptoSaid : Prop := fnExactSpotsOfUptoRow.holds Try.pinned (OpenSpec.upto fnExactSpotsOfSpec)

end Rows
end Go.Proofs.Yticgeijklhlonaa
