/-
  The library's stable sort at places, beside a comparison by keys.
-/
import Derived.Test.YtpmphkcibiimcaaGreatSortM
import Derived.Test.YtpmphkcibiimcaaGreatSwap
namespace Go.Proofs.YtpmphkcibiimcaaGreat
open Go.RowKit
attribute [local irreducible] Go.wpList Go.Code.wp Go.Exit.then Go.Exit.inBlock Go.bodyPost Go.Calls pE pB G RunsV FnV Fn FnM
set_option maxRecDepth 100000
set_option maxHeartbeats 4000000
def cmpZ (x y : Int) : Int := if x < y then -1 else if x > y then 1 else 0
theorem cmpZ_neg {x y : Int} : cmpZ x y < 0 ↔ x < y := by
  unfold cmpZ
  split
  · omega
  · split <;> omega
theorem get_setN {β : Type} {es : List β} {i k : Nat} {x y : β} (h : i ≠ k) (he : es[k]? = some x) : (es.set i y)[k]? = some x := by
  rw [List.getElem?_set_ne h]; exact he
theorem swap_row {n k l : Nat} {f : Nat → Nat} : ((rowF n f).set k (icell (f l : Int))).set l (icell (f k : Int)) = rowF n (upd (upd f k (f l)) l (f k)) := by rw [rowF_set, rowF_set]
theorem row_up {n a k : Nat} {f : Nat → Nat} (h : a ≤ k) : ((rowF n (rotF f a (a + 1) (k + 1))).set k (icell (f (k + 1) : Int))).set (k + 1) (icell (f a : Int)) = rowF n (rotF f a (a + 1) (k + 2)) := by
  have e1 : rotF f a (a + 1) (k + 1) (k + 1) = f (k + 1) := rot_out (by omega) (by omega) (.inr (Nat.le_refl _))
  have e2 : rotF f a (a + 1) (k + 1) k = f a := by
    rw [rot_hi (by omega) (by omega)]; congr 1; omega
  have := rot_up (f := f) h
  rw [e1, e2] at this
  rw [rowF_set, rowF_set, this]
theorem row_dn {n m k : Nat} {f : Nat → Nat} (h : k < m) : ((rowF n (rotF f (k + 1) m (m + 1))).set (k + 1) (icell (f k : Int))).set k (icell (f m : Int)) = rowF n (rotF f k m (m + 1)) := by
  have e1 : rotF f (k + 1) m (m + 1) k = f k := rot_out (by omega) (by omega) (.inl (by omega))
  have e2 : rotF f (k + 1) m (m + 1) (k + 1) = f m := by
    rw [rot_lo (by omega) (by omega)]; congr 1; omega
  have := rot_dn (f := f) h
  rw [e1, e2] at this
  rw [rowF_set, rowF_set, this]
theorem ins_next {K : Nat → Int} {a i j : Nat} {g : Nat → Nat} (hs : Seg K a i g) (hi : g i = i) (ha : a ≤ j) (hj : j ≤ i) (hl : j = a ∨ ¬ K (g i) < K (g (j - 1))) (hr : j = i ∨ K (g i) < K (g j)) : Seg K a (i + 1) (rotF g j i (i + 1)) := by
  refine ⟨put_right hs.1 (fun l k l1 l2 k1 k2 _ => ?_) ha hj hl hr, fun l l1 l2 => ?_⟩
  · have := hs.2 l l1 l2
    obtain rfl : k = i := by omega
    omega
  · obtain ⟨z, z1, z2, z3⟩ := (rot_frm (f := g) hj (by omega : i ≤ i + 1)).mono ha (Nat.le_refl _) |>.src l l1 l2
    rw [z3]
    by_cases c : z = i
    · subst c; omega
    · have := hs.2 z z1 (by omega); omega
section
variable {w0 : World} {F : List Ch} {v u : Value} {n : Nat}

variable {g : Nat} [FnOk Tryz.prog g] {caps : List Value} {K : Nat → Int} {N : Nat}
end
end Go.Proofs.YtpmphkcibiimcaaGreat
