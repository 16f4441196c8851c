/-
  Texts of this proof, one behind the other: Packs.
-/
import Derived.Test.YtibkggjbkgdnkaaGreatPkwE
import Derived.Test.YtibkggjbkgdnkaaGreatPkwD
import Derived.Test.YtibkggjbkgdnkaaGreatPkwG
set_option linter.unusedVariables false
set_option linter.unusedSimpArgs false

/-
  The law of the packings.
-/
namespace Go.Proofs.YtibkggjbkgdnkaaGreat
open Go.RowKit
attribute [local irreducible] Go.wpList Go.Code.wp Go.Exit.then Go.Exit.inBlock Go.bodyPost Go.Calls pE pB G RunsV FnV Fn FnM
set_option maxRecDepth 100000
set_option maxHeartbeats 4000000
end Go.Proofs.YtibkggjbkgdnkaaGreat
