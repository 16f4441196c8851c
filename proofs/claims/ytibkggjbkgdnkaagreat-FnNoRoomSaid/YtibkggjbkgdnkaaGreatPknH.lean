/-
  Texts of this proof, one behind the other: TblSS, IsPackW.
-/
import Derived.Test.YtibkggjbkgdnkaaGreatPknC
import Derived.Test.YtibkggjbkgdnkaaGreatPknD
import Derived.Test.YtibkggjbkgdnkaaGreatPknE
set_option linter.unusedVariables false
set_option linter.unusedSimpArgs false

/-
  Tables of numbers that come in: measured, copied.
-/
namespace Go.Proofs.YtibkggjbkgdnkaaGreat
open Go.RowKit
attribute [local irreducible] Go.wpList Go.Code.wp Go.Exit.then Go.Exit.inBlock Go.bodyPost Go.Calls pE pB G RunsV FnV Fn FnM
set_option maxRecDepth 100000
set_option maxHeartbeats 4000000
section
variable {r : ReqM} {pv tv iv uv cv : Value} {us : List Int} {l : List (List Int × Value)} (w : World) (h : Rd w pv 2 (r.pairs.map PairM.cells)) (h2 : Rd w tv 7 (r.types.map TypeM.cells)) (h3 : Rd w iv 7 (r.items.map ItemM.cells)) (h4 : Rd w uv 1 (us.map icell)) (h5 : Rd w cv 1 (l.map gcell)) (hs : Subs w id l) (hul : us.length ≤ 1048576) (hfl : (l.map Prod.fst).flatten.length ≤ 1048576)
include h h2 h3 h4 h5 hs hul hfl
end
end Go.Proofs.YtibkggjbkgdnkaaGreat
