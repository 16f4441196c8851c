/-
  Where boxes stand: no program is in sight here.
-/
import Derived.Test.YticgeijklhlonaaStackLaw
namespace Go.Proofs.Yticgeijklhlonaa
open Go.RowKit
def shAt (ss : List ShelfM) (n : Int) : ShelfM := ss.getD n.toNat shelfZ
def lyAt (ls : List LayerM) (n : Int) : LayerM := ls.getD n.toNat layZ
def boxStep (l : List BoxM) (o y z : Int) (st : List SpotM × Int) (b : Int) : List SpotM × Int := (st.1.set b.toNat ⟨o, st.2, y, z⟩, IntKind.i64.wrap (st.2 + (boxAt l b.toNat).w))
def shelfStep (l : List BoxM) (ss : List ShelfM) (o z : Int) (st : List SpotM × Int) (s : Int) : List SpotM × Int := (((shAt ss s).l.foldl (boxStep l o st.2 z) (st.1, 0)).1, IntKind.i64.wrap (st.2 + (shAt ss s).d))
def layerStep (l : List BoxM) (ss : List ShelfM) (ls : List LayerM) (o : Int) (st : List SpotM × Int) (i : Int) : List SpotM × Int := (((lyAt ls i).l.foldl (shelfStep l ss o st.2) (st.1, 0)).1, IntKind.i64.wrap (st.2 + (lyAt ls i).h))
def loadStep (l : List BoxM) (ss : List ShelfM) (ls : List LayerM) (out : List SpotM) (x : LoadM × Nat) : List SpotM := (x.1.l.foldl (layerStep l ss ls (x.2 : Int)) (out, 0)).1
def spotsM (p : PalletM) (l : List BoxM) : List SpotM :=
  if boxesOkM p l then (loadsM p (layersM p (shelvesM p l))).zipIdx.foldl (loadStep l (shelvesM p l) (layersM p (shelvesM p l))) (List.replicate l.length ⟨0, 0, 0, 0⟩) else []
theorem shAt_get {ss : List ShelfM} {j : Nat} {t : ShelfM} (h : ss[j]? = some t) : shAt ss (j : Int) = t := by simp [shAt, List.getD_eq_getElem?_getD, h]
theorem lyAt_get {ls : List LayerM} {j : Nat} {t : LayerM} (h : ls[j]? = some t) : lyAt ls (j : Int) = t := by simp [lyAt, List.getD_eq_getElem?_getD, h]
section
variable {l : List BoxM} {ss : List ShelfM} {ls : List LayerM} {o y z : Int}
theorem box_len : ∀ (bs : List Int) (st : List SpotM × Int), (bs.foldl (boxStep l o y z) st).1.length = st.1.length
  | [], _ => rfl
  | b :: r, st => by rw [List.foldl_cons, box_len r]; simp [boxStep]
theorem shelf_lenS : ∀ (bs : List Int) (st : List SpotM × Int), (bs.foldl (shelfStep l ss o z) st).1.length = st.1.length
  | [], _ => rfl
  | b :: r, st => by rw [List.foldl_cons, shelf_lenS r]; simp [shelfStep, box_len]
theorem layer_lenS : ∀ (bs : List Int) (st : List SpotM × Int), (bs.foldl (layerStep l ss ls o) st).1.length = st.1.length
  | [], _ => rfl
  | b :: r, st => by rw [List.foldl_cons, layer_lenS r]; simp [layerStep, shelf_lenS]
theorem load_lenS : ∀ (xs : List (LoadM × Nat)) (out : List SpotM), (xs.foldl (loadStep l ss ls) out).length = out.length
  | [], _ => rfl
  | x :: r, out => by rw [List.foldl_cons, load_lenS r]; simp [loadStep, layer_lenS]
end
theorem spots_len {p : PalletM} {l : List BoxM} (hok : boxesOkM p l = true) : (spotsM p l).length = l.length := by
  rw [spotsM, if_pos hok, load_lenS, List.length_replicate]
theorem spots_le (p : PalletM) (l : List BoxM) : (spotsM p l).length ≤ l.length := by
  cases h : boxesOkM p l with
  | true => rw [spots_len h]; exact Nat.le_refl _
  | false => rw [spotsM, h]; simp
theorem shelf_ge {p : PalletM} {l : List BoxM} (hok : boxesOkM p l = true) : ∀ t ∈ shelvesM p l, 1 ≤ t.w ∧ t.w ≤ p.w ∧ 1 ≤ t.d ∧ t.d ≤ p.d ∧ 1 ≤ t.h ∧ t.h ≤ p.h ∧ 1 ≤ t.g ∧ t.g ≤ p.g := by
  rw [shelvesM, if_pos hok]
  refine pile_inv _ _ (fun x hx => ?_) (by simp)
  have hx' : x.1 ∈ l := List.mem_of_getElem? (xs_mem hx)
  simp only [boxesOkM, Bool.and_eq_true, List.all_eq_true] at hok
  have hh := box_in (hok.2 x.1 hx')
  refine ⟨by simp only [shelfAdd, shelfZ]; omega, fun t ht hr => ?_⟩
  simp only [shelfRoom, Bool.and_eq_true, decide_eq_true_eq] at hr
  simp only [shelfAdd]; omega
theorem shelves_okL {p : PalletM} {l : List BoxM} (hok : boxesOkM p l = true) : shelvesOkM p (shelvesM p l) = true := by
  have hp : palletOkM p = true := by simp only [boxesOkM, Bool.and_eq_true] at hok; exact hok.1
  simp only [shelvesOkM, Bool.and_eq_true, List.all_eq_true]
  refine ⟨hp, fun t ht => ?_⟩
  have := shelf_ge hok t ht
  simp only [heapOkM, inB, Bool.and_eq_true, decide_eq_true_eq]; omega
theorem set_cellsP {bs : List SpotM} {i : Nat} {a b c d : Int} : (bs.map SpotM.cells).set i [.int .i64 a, .int .i64 b, .int .i64 c, .int .i64 d] = (bs.set i ⟨a, b, c, d⟩).map SpotM.cells := by rw [List.map_set]; rfl
end Go.Proofs.Yticgeijklhlonaa
