/-
  Things that are put one upon the other as long as there is room: no program is in sight here.
-/
import Derived.Test.YticgeijklhlonaaMarks
namespace Go.Proofs.Yticgeijklhlonaa
open Go.RowKit
section
variable {M S : Type} (room : M → S → Bool) (add : M → Nat → S → M) (z : M)
def pileStep (out : List M) (x : S × Nat) : List M :=
  match out.getLast? with
  | some t => if room t x.1 then out.set (out.length - 1) (add t x.2 x.1) else out ++ [add z x.2 x.1]
  | none => out ++ [add z x.2 x.1]
def pile (xs : List (S × Nat)) : List M := xs.foldl (pileStep room add z) []
end
section
variable {M S : Type} {room : M → S → Bool} {add : M → Nat → S → M} {z : M} {out : List M} {s : S} {k : Nat}
theorem pile_new (h : ∀ t, out.getLast? = some t → room t s = false) : pileStep room add z out (s, k) = (out ++ [z]).set out.length (add z k s) := by
  rw [List.set_append_right _ _ (Nat.le_refl _), Nat.sub_self, List.set_cons_zero]
  unfold pileStep
  split
  · rename_i t ht; rw [h t ht]; rfl
  · rfl
theorem pile_room {q : Nat} {t : M} (hq : out[q]? = some t) (hl : q + 1 = out.length) (hr : room t s = true) : pileStep room add z out (s, k) = out.set q (add t k s) := by
  have : out.getLast? = some t := by rw [List.getLast?_eq_getElem?, ← hl]; exact hq
  unfold pileStep
  simp only [this, hr, if_true]
  rw [← hl]; rfl
theorem pileStep_inv {P : M → Prop} {x : S × Nat} (hz : P (add z x.2 x.1)) (hs : ∀ t, P t → room t x.1 = true → P (add t x.2 x.1)) (h : ∀ t ∈ out, P t) : ∀ t ∈ pileStep room add z out x, P t := by
  intro t ht
  unfold pileStep at ht
  split at ht
  · rename_i u hu
    split at ht
    · rename_i hr
      rcases List.mem_or_eq_of_mem_set ht with h1 | h1
      · exact h t h1
      · rw [h1]; exact hs u (h u (List.mem_of_getLast? hu)) hr
    · rcases List.mem_append.1 ht with h1 | h1
      · exact h t h1
      · rw [List.mem_singleton.1 h1]; exact hz
  · rcases List.mem_append.1 ht with h1 | h1
    · exact h t h1
    · rw [List.mem_singleton.1 h1]; exact hz
theorem pile_inv {P : M → Prop} : ∀ (xs : List (S × Nat)) (out : List M), (∀ x ∈ xs, P (add z x.2 x.1) ∧ ∀ t, P t → room t x.1 = true → P (add t x.2 x.1)) → (∀ t ∈ out, P t) → ∀ t ∈ xs.foldl (pileStep room add z) out, P t
  | [], out, _, h => h
  | x :: r, out, hs, h => pile_inv r _ (fun y hy => hs y (List.mem_cons_of_mem _ hy)) (pileStep_inv (hs x List.mem_cons_self).1 (hs x List.mem_cons_self).2 h)
theorem pileStep_len (x : S × Nat) : (pileStep room add z out x).length ≤ out.length + 1 := by
  unfold pileStep
  split
  · split
    · rw [List.length_set]; omega
    · simp
  · simp
theorem pile_len : ∀ (xs : List (S × Nat)) (out : List M), (xs.foldl (pileStep room add z) out).length ≤ out.length + xs.length
  | [], out => Nat.le_refl _
  | x :: r, out => by
    have h1 := pile_len r (pileStep room add z out x)
    have h2 := pileStep_len (room := room) (add := add) (z := z) (out := out) x
    simp only [List.foldl_cons, List.length_cons]; omega
end
theorem zip_get {α : Type} {l : List α} {k : Nat} {x : α} (h : l[k]? = some x) : l.zipIdx[k]? = some (x, k) := by
  rw [List.getElem?_zipIdx, h]; simp
theorem last_of {M : Type} {ts tp : List (M × Value)} {t : M × Value} (h : ts = tp ++ [t]) : (ts.map Prod.fst).getLast? = some t.1 := by subst h; simp
theorem fst_at {M : Type} {ts : List (M × Value)} {q : Nat} {t : M × Value} (h : ts[q]? = some t) : (ts.map Prod.fst)[q]? = some t.1 := by simp [h]
theorem get_last {α : Type} {ts tp : List α} {t : α} (h : ts = tp ++ [t]) : ts[tp.length]? = some t := by subst h; simp
def layRoom (p : PalletM) (t : LayerM) (s : ShelfM) : Bool := decide (t.d + s.d ≤ p.d) && decide (t.g + s.g ≤ p.g)
def layAdd (t : LayerM) (k : Nat) (s : ShelfM) : LayerM := ⟨t.l ++ [(k : Int)], t.d + s.d, max t.h s.h, t.g + s.g⟩
def layZ : LayerM := ⟨[], 0, 0, 0⟩
def shelvesOkM (p : PalletM) (ss : List ShelfM) : Bool := palletOkM p && ss.all fun s => heapOkM p s.d s.h s.g
def layersM (p : PalletM) (ss : List ShelfM) : List LayerM := if shelvesOkM p ss then pile (layRoom p) layAdd layZ ss.zipIdx else []
def loadRoom (p : PalletM) (t : LoadM) (s : LayerM) : Bool := decide (t.h + s.h ≤ p.h) && decide (t.g + s.g ≤ p.g)
def loadAdd (t : LoadM) (k : Nat) (s : LayerM) : LoadM := ⟨t.l ++ [(k : Int)], t.h + s.h, t.g + s.g⟩
def loadZ : LoadM := ⟨[], 0, 0⟩
def stacksOkM (p : PalletM) (ss : List LayerM) : Bool := palletOkM p && ss.all fun s => heapOkM p s.d s.h s.g
def loadsM (p : PalletM) (ss : List LayerM) : List LoadM := if stacksOkM p ss then pile (loadRoom p) loadAdd loadZ ss.zipIdx else []
theorem pallet_in {p : PalletM} (h : palletOkM p = true) : 1 ≤ p.w ∧ p.w ≤ 2000 ∧ 1 ≤ p.d ∧ p.d ≤ 2000 ∧ 1 ≤ p.h ∧ p.h ≤ 2000 ∧ 1 ≤ p.g ∧ p.g ≤ 100000 := by
  simp only [palletOkM, inB, Bool.and_eq_true, decide_eq_true_eq] at h; omega
theorem heap_in {p : PalletM} {d h g : Int} (hh : heapOkM p d h g = true) : 1 ≤ d ∧ d ≤ p.d ∧ 1 ≤ h ∧ h ≤ p.h ∧ 1 ≤ g ∧ g ≤ p.g := by
  simp only [heapOkM, inB, Bool.and_eq_true, decide_eq_true_eq] at hh; omega
theorem ok_at {α : Type} {q : Bool} {f : α → Bool} {l : List α} {k : Nat} {b : α} (h : (!(q && l.all f)) = false) (hb : l[k]? = some b) : q = true ∧ f b = true := by
  simp only [Bool.not_eq_false', Bool.and_eq_true, List.all_eq_true] at h
  exact ⟨h.1, h.2 b (List.mem_of_getElem? hb)⟩
theorem lay_bd {p : PalletM} {ss : List ShelfM} (hok : shelvesOkM p ss = true) (k : Nat) : ∀ t ∈ (ss.zipIdx.take k).foldl (pileStep (layRoom p) layAdd layZ) [], 0 ≤ t.d ∧ t.d ≤ p.d ∧ 0 ≤ t.h ∧ t.h ≤ p.h ∧ 0 ≤ t.g ∧ t.g ≤ p.g := by
  refine pile_inv _ _ (fun x hx => ?_) (by simp)
  have hx' : x.1 ∈ ss := (List.mem_zipIdx' (List.mem_of_mem_take hx)).2 ▸ List.getElem_mem _
  simp only [shelvesOkM, Bool.and_eq_true, List.all_eq_true] at hok
  have hh := heap_in (hok.2 x.1 hx')
  refine ⟨by simp only [layAdd, layZ]; omega, fun t ht hr => ?_⟩
  simp only [layRoom, Bool.and_eq_true, decide_eq_true_eq] at hr
  simp only [layAdd]; omega
theorem load_bd {p : PalletM} {ss : List LayerM} (hok : stacksOkM p ss = true) (k : Nat) : ∀ t ∈ (ss.zipIdx.take k).foldl (pileStep (loadRoom p) loadAdd loadZ) [], 0 ≤ t.h ∧ t.h ≤ p.h ∧ 0 ≤ t.g ∧ t.g ≤ p.g := by
  refine pile_inv _ _ (fun x hx => ?_) (by simp)
  have hx' : x.1 ∈ ss := (List.mem_zipIdx' (List.mem_of_mem_take hx)).2 ▸ List.getElem_mem _
  simp only [stacksOkM, Bool.and_eq_true, List.all_eq_true] at hok
  have hh := heap_in (hok.2 x.1 hx')
  refine ⟨by simp only [loadAdd, loadZ]; omega, fun t ht hr => ?_⟩
  simp only [loadRoom, Bool.and_eq_true, decide_eq_true_eq] at hr
  simp only [loadAdd]; omega
theorem layers_len (p : PalletM) (ss : List ShelfM) : (layersM p ss).length ≤ ss.length := by
  unfold layersM; split
  · have := pile_len (room := layRoom p) (add := layAdd) (z := layZ) ss.zipIdx []; simpa [pile] using this
  · simp
theorem loads_len (p : PalletM) (ss : List LayerM) : (loadsM p ss).length ≤ ss.length := by
  unfold loadsM; split
  · have := pile_len (room := loadRoom p) (add := loadAdd) (z := loadZ) ss.zipIdx []; simpa [pile] using this
  · simp
end Go.Proofs.Yticgeijklhlonaa
