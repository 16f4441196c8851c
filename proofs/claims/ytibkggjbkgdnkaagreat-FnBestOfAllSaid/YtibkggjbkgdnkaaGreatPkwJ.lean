/-
  Texts of this proof, one behind the other: NoRoomLaw, RatLaw.
-/
import Derived.Test.YtibkggjbkgdnkaaGreatPkwF
set_option linter.unusedVariables false
set_option linter.unusedSimpArgs false

/-
  The first unit of a later carton finds no room in an earlier one.
-/
namespace Go.Proofs.YtibkggjbkgdnkaaGreat
/-- h begins with a unit that finds no room in g. -/
def NoRm (r : ReqM) (g h : List Int) : Prop := ∃ u t, h = u :: t ∧ roomM r g u = false
/-- Each list begins with a unit that finds no room in the list just ahead. -/
def Chn (r : ReqM) (l : List (List Int)) : Prop := ∀ (i : Nat) g h, l[i]? = some g → l[i + 1]? = some h → NoRm r g h
end Go.Proofs.YtibkggjbkgdnkaaGreat

/-
  First fit and next fit have few cartons more than the best.
-/

namespace Go.Proofs.YtibkggjbkgdnkaaGreat
/-- A list's units find no room in g, and each of them is no greater than one of g. -/
def NoAll (r : ReqM) (f : Int → Int) (g h : List Int) : Prop := ∀ u ∈ h, roomM r g u = false ∧ ∃ y ∈ g, f u ≤ f y
/-- No unit of h fits beside the units of g. -/
def NoFit (f : Int → Int) (V : Int) (g h : List Int) : Prop := ∀ u ∈ h, V + 1 ≤ (g.map f).sum + f u
theorem first_len48 (r : ReqM) (us : List Int) : (firstM r us).length ≤ us.length := by rw [firstM]; exact Nat.le_trans (putAll_len _ _) (by rw [ordU_len]; exact thereM_len r us)
theorem next_len48 (r : ReqM) (us : List Int) : (nextM r us).length ≤ us.length := by rw [nextM]; exact Nat.le_trans (lastAll_len _ _) (thereM_len r us)
end Go.Proofs.YtibkggjbkgdnkaaGreat
