/-
  Texts of this proof, one behind the other: Packs.
-/
import Derived.Test.YtibkggjbkgdnkaaGreatPknF
import Derived.Test.YtibkggjbkgdnkaaGreatPknE
import Derived.Test.YtibkggjbkgdnkaaGreatPknH
set_option linter.unusedVariables false
set_option linter.unusedSimpArgs false

/-
  The law of the packings.
-/
namespace Go.Proofs.YtibkggjbkgdnkaaGreat
open Go.RowKit
theorem gl_len {os : List (List Int × Value)} {l : List (List Int)} (h : os.map Prod.fst = l) : (os.map gcell).length = l.length := by rw [← h, List.length_map, List.length_map]
attribute [local irreducible] Go.wpList Go.Code.wp Go.Exit.then Go.Exit.inBlock Go.bodyPost Go.Calls pE pB G RunsV FnV Fn FnM
set_option maxRecDepth 100000
set_option maxHeartbeats 4000000
end Go.Proofs.YtibkggjbkgdnkaaGreat
