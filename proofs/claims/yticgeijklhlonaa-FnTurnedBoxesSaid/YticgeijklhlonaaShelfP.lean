/-
  Boxes that are put on shelves, the deepest first: no program is in sight here.
-/
import Derived.Test.YticgeijklhlonaaPileM
import Derived.Test.YticgeijklhlonaaSortM
namespace Go.Proofs.Yticgeijklhlonaa
open Go.RowKit
def keyM (ks : List Int) (i : Nat) : Int := -(ks.getD i 0)
theorem keyM_get {ks : List Int} {i : Nat} {k : Int} (h : ks[i]? = some k) : keyM ks i = -k := by simp [keyM, List.getD_eq_getElem?_getD, h]
def shelfRoom (p : PalletM) (t : ShelfM) (b : BoxM) : Bool := decide (t.w + b.w ≤ p.w) && decide (t.g + b.g ≤ p.g)
def shelfAdd (t : ShelfM) (k : Nat) (b : BoxM) : ShelfM := ⟨t.l ++ [(k : Int)], t.w + b.w, max t.d b.d, max t.h b.h, t.g + b.g⟩
def shelfZ : ShelfM := ⟨[], 0, 0, 0, 0⟩
def boxAt (l : List BoxM) (i : Nat) : BoxM := l.getD i ⟨0, 0, 0, 0⟩
def shelfXs (l : List BoxM) : List (BoxM × Nat) := (ordM (keyM (l.map BoxM.d)) l.length).map fun i => (boxAt l i, i)
def shelvesM (p : PalletM) (l : List BoxM) : List ShelfM := if boxesOkM p l then pile (shelfRoom p) shelfAdd shelfZ (shelfXs l) else []
theorem boxAt_get {l : List BoxM} {i : Nat} {b : BoxM} (h : l[i]? = some b) : boxAt l i = b := by simp [boxAt, List.getD_eq_getElem?_getD, h]
theorem xs_len (l : List BoxM) : (shelfXs l).length = l.length := by simp [shelfXs, ordM_len]
theorem xs_get {l : List BoxM} {k x : Nat} {b : BoxM} (hx : (ordM (keyM (l.map BoxM.d)) l.length)[k]? = some x) (hb : l[x]? = some b) : (shelfXs l)[k]? = some (b, x) := by
  simp [shelfXs, hx, boxAt_get hb]
theorem xs_mem {l : List BoxM} {y : BoxM × Nat} (h : y ∈ shelfXs l) : l[y.2]? = some y.1 := by
  obtain ⟨i, hi, rfl⟩ := List.mem_map.1 h
  rw [ordM_mem] at hi
  simp [boxAt, List.getD_eq_getElem?_getD, hi]
theorem box_in {p : PalletM} {b : BoxM} (h : boxOkM p b = true) : 1 ≤ b.w ∧ b.w ≤ p.w ∧ 1 ≤ b.d ∧ b.d ≤ p.d ∧ 1 ≤ b.h ∧ b.h ≤ p.h ∧ 1 ≤ b.g ∧ b.g ≤ p.g := by
  simp only [boxOkM, inB, Bool.and_eq_true, decide_eq_true_eq] at h; omega
theorem shelf_bd {p : PalletM} {l : List BoxM} (hok : boxesOkM p l = true) (k : Nat) : ∀ t ∈ ((shelfXs l).take k).foldl (pileStep (shelfRoom p) shelfAdd shelfZ) [], 0 ≤ t.w ∧ t.w ≤ p.w ∧ 0 ≤ t.d ∧ t.d ≤ p.d ∧ 0 ≤ t.h ∧ t.h ≤ p.h ∧ 0 ≤ t.g ∧ t.g ≤ p.g := by
  refine pile_inv _ _ (fun x hx => ?_) (by simp)
  have hx' : x.1 ∈ l := List.mem_of_getElem? (xs_mem (List.mem_of_mem_take hx))
  simp only [boxesOkM, Bool.and_eq_true, List.all_eq_true] at hok
  have hh := box_in (hok.2 x.1 hx')
  refine ⟨by simp only [shelfAdd, shelfZ]; omega, fun t ht hr => ?_⟩
  simp only [shelfRoom, Bool.and_eq_true, decide_eq_true_eq] at hr
  simp only [shelfAdd]; omega
theorem shelves_len (p : PalletM) (l : List BoxM) : (shelvesM p l).length ≤ l.length := by
  unfold shelvesM; split
  · have := pile_len (room := shelfRoom p) (add := shelfAdd) (z := shelfZ) (shelfXs l) []
    rw [xs_len] at this; simpa [pile] using this
  · simp
theorem shelf_end {p : PalletM} {l : List BoxM} {m : List ShelfM} {k : Nat} (hok : boxesOkM p l = true) (hM : m = ((shelfXs l).take k).foldl (pileStep (shelfRoom p) shelfAdd shelfZ) []) (hk : ¬ k < l.length) : m = shelvesM p l := by
  rw [hM, shelvesM, if_pos hok, List.take_of_length_le (by rw [xs_len]; omega)]; rfl
theorem shelf_no {p : PalletM} {l : List BoxM} (hok : boxesOkM p l = false) : shelvesM p l = [] := by rw [shelvesM, hok]; rfl
theorem dsnoc {l : List BoxM} {k : Nat} {b : BoxM} (h : l[k]? = some b) : ((l.take k).map BoxM.d).map icell ++ [[.int .i64 b.d]] = ((l.take (k + 1)).map BoxM.d).map icell := by
  rw [List.take_add_one, h]; simp [icell]
end Go.Proofs.Yticgeijklhlonaa
