/-
  What layers and loads keep. No program is in sight here.
-/
import Derived.Test.YticgeijklhlonaaShelfLaw
namespace Go.Proofs.Yticgeijklhlonaa
open Go.RowKit
theorem lay_ok {p : PalletM} {ss : List ShelfM} (hok : shelvesOkM p ss = true) : ∀ t ∈ layersM p ss, 1 ≤ t.d ∧ t.d ≤ p.d ∧ 1 ≤ t.h ∧ t.h ≤ p.h ∧ 1 ≤ t.g ∧ t.g ≤ p.g := by
  rw [layersM, if_pos hok]
  refine pile_inv _ _ (fun x hx => ?_) (by simp)
  have hx' : x.1 ∈ ss := (List.mem_zipIdx' hx).2 ▸ List.getElem_mem _
  simp only [shelvesOkM, Bool.and_eq_true, List.all_eq_true] at hok
  have hh := heap_in (hok.2 x.1 hx')
  refine ⟨by simp only [layAdd, layZ]; omega, fun t ht hr => ?_⟩
  simp only [layRoom, Bool.and_eq_true, decide_eq_true_eq] at hr
  simp only [layAdd]; omega
theorem lay_stacks {p : PalletM} {ss : List ShelfM} (hok : shelvesOkM p ss = true) : stacksOkM p (layersM p ss) = true := by
  have hp : palletOkM p = true := by simp only [shelvesOkM, Bool.and_eq_true] at hok; exact hok.1
  simp only [stacksOkM, Bool.and_eq_true, List.all_eq_true]
  refine ⟨hp, fun t ht => ?_⟩
  have := lay_ok hok t ht
  simp only [heapOkM, inB, Bool.and_eq_true, decide_eq_true_eq]; omega
theorem load_ok {p : PalletM} {ss : List LayerM} (hok : stacksOkM p ss = true) : ∀ t ∈ loadsM p ss, 1 ≤ t.h ∧ t.h ≤ p.h ∧ 1 ≤ t.g ∧ t.g ≤ p.g := by
  rw [loadsM, if_pos hok]
  refine pile_inv _ _ (fun x hx => ?_) (by simp)
  have hx' : x.1 ∈ ss := (List.mem_zipIdx' hx).2 ▸ List.getElem_mem _
  simp only [stacksOkM, Bool.and_eq_true, List.all_eq_true] at hok
  have hh := heap_in (hok.2 x.1 hx')
  refine ⟨by simp only [loadAdd, loadZ]; omega, fun t ht hr => ?_⟩
  simp only [loadRoom, Bool.and_eq_true, decide_eq_true_eq] at hr
  simp only [loadAdd]; omega
theorem zip_snd {α : Type} (l : List α) : (l.zipIdx.map fun x => (x.2 : Int)) = (List.range l.length).map fun (j : Nat) => (j : Int) := by
  have : l.zipIdx.map Prod.snd = List.range l.length := by rw [List.zipIdx_map_snd, List.range_eq_range']
  rw [← this, List.map_map]; rfl
theorem zip_mem {α : Type} {l : List α} {x : α × Nat} (h : x ∈ l.zipIdx) : l[x.2]? = some x.1 := by
  have := List.mem_zipIdx' h
  rw [List.getElem?_eq_getElem this.1]; exact congrArg some this.2.symm
theorem lay_flat {p : PalletM} {ss : List ShelfM} (hok : shelvesOkM p ss = true) : ((layersM p ss).map LayerM.l).flatten = (List.range ss.length).map fun (j : Nat) => (j : Int) := by
  rw [layersM, if_pos hok, pile, pile_flat LayerM.l rfl (fun _ _ _ => rfl), zip_snd]; simp
theorem load_flat {p : PalletM} {ss : List LayerM} (hok : stacksOkM p ss = true) : ((loadsM p ss).map LoadM.l).flatten = (List.range ss.length).map fun (j : Nat) => (j : Int) := by
  rw [loadsM, if_pos hok, pile, pile_flat LoadM.l rfl (fun _ _ _ => rfl), zip_snd]; simp
theorem lay_ne {p : PalletM} {ss : List ShelfM} : ∀ t ∈ layersM p ss, t.l ≠ [] := by
  unfold layersM; split
  · exact pile_ne LayerM.l rfl (fun _ _ _ => rfl) _
  · simp
theorem load_ne {p : PalletM} {ss : List LayerM} : ∀ t ∈ loadsM p ss, t.l ≠ [] := by
  unfold loadsM; split
  · exact pile_ne LoadM.l rfl (fun _ _ _ => rfl) _
  · simp
theorem lay_need {p : PalletM} {ss : List ShelfM} (hok : shelvesOkM p ss = true) {i : Nat} {s t : LayerM} (hs : (layersM p ss)[i]? = some s) (ht : (layersM p ss)[i + 1]? = some t) : ∃ (j : Nat) (b : ShelfM), t.l[0]? = some (j : Int) ∧ ss[j]? = some b ∧ layRoom p s b = false := by
  rw [layersM, if_pos hok] at hs ht
  obtain ⟨x, hx, h1, h2⟩ := pile_need LayerM.l rfl (fun _ _ _ => rfl) ss.zipIdx ss.zipIdx [] (fun _ h => h) (by simp) (by simp) i s t hs ht
  exact ⟨x.2, x.1, h1, zip_mem hx, h2⟩
theorem load_need {p : PalletM} {ss : List LayerM} (hok : stacksOkM p ss = true) {i : Nat} {s t : LoadM} (hs : (loadsM p ss)[i]? = some s) (ht : (loadsM p ss)[i + 1]? = some t) : ∃ (j : Nat) (b : LayerM), t.l[0]? = some (j : Int) ∧ ss[j]? = some b ∧ loadRoom p s b = false := by
  rw [loadsM, if_pos hok] at hs ht
  obtain ⟨x, hx, h1, h2⟩ := pile_need LoadM.l rfl (fun _ _ _ => rfl) ss.zipIdx ss.zipIdx [] (fun _ h => h) (by simp) (by simp) i s t hs ht
  exact ⟨x.2, x.1, h1, zip_mem hx, h2⟩
section
variable {M : Type} {f : M → List Int} {m : List M} {i k N : Nat} {t : M} {x : Int}
def offM (f : M → List Int) (m : List M) (i : Nat) : Nat := ((m.take i).map f).flatten.length
theorem off_next (h : m[i]? = some t) : offM f m (i + 1) = offM f m i + (f t).length := by
  unfold offM; rw [List.take_add_one, h]; simp
theorem off_all (h : (m.map f).flatten = (List.range N).map fun (j : Nat) => (j : Int)) (hi : m.length ≤ i) : offM f m i = N := by
  unfold offM; rw [List.take_of_length_le hi, h]; simp
theorem off_le (h : (m.map f).flatten = (List.range N).map fun (j : Nat) => (j : Int)) (i : Nat) : offM f m i ≤ N := by
  have e : (m.map f).flatten = ((m.take i).map f).flatten ++ ((m.drop i).map f).flatten := by
    rw [← List.flatten_append, ← List.map_append, List.take_append_drop]
  have : N = (m.map f).flatten.length := by rw [h]; simp
  rw [this, e, List.length_append]; unfold offM; omega
theorem off_at (h : (m.map f).flatten = (List.range N).map fun (j : Nat) => (j : Int)) (ht : m[i]? = some t) (hx : (f t)[k]? = some x) : x = ((offM f m i + k : Nat) : Int) ∧ offM f m i + k < N := by
  have hi : i < m.length := by
    rcases Nat.lt_or_ge i m.length with h1 | h1
    · exact h1
    · rw [List.getElem?_eq_none h1] at ht; cases ht
  have e : (m.map f).flatten = ((m.take i).map f).flatten ++ (f t ++ ((m.drop (i + 1)).map f).flatten) := by
    have e2 : m = m.take i ++ t :: m.drop (i + 1) := by
      rw [List.getElem?_eq_getElem hi] at ht
      conv => lhs; rw [← List.take_append_drop i m, List.drop_eq_getElem_cons hi]
      rw [Option.some.inj ht]
    conv => lhs; rw [e2]
    simp
  have hk : k < (f t).length := by
    rcases Nat.lt_or_ge k (f t).length with h1 | h1
    · exact h1
    · rw [List.getElem?_eq_none h1] at hx; cases hx
  have hz : (m.map f).flatten[offM f m i + k]? = some x := by
    rw [e, List.getElem?_append_right (by unfold offM; omega), show offM f m i + k - ((m.take i).map f).flatten.length = k from by unfold offM; omega, List.getElem?_append_left hk]
    exact hx
  rw [h] at hz
  have hN : offM f m i + k < N := by
    rcases Nat.lt_or_ge (offM f m i + k) N with h1 | h1
    · exact h1
    · rw [List.getElem?_eq_none (by simpa using h1)] at hz; cases hz
  rw [List.getElem?_map, List.getElem?_range hN] at hz
  exact ⟨(Option.some.inj hz).symm, hN⟩
end
theorem lay_step {p : PalletM} {ss : List ShelfM} (hok : shelvesOkM p ss = true) {i : Nat} {s t : LayerM} (hi : 0 < i) (hs : (layersM p ss)[i - 1]? = some s) (ht : (layersM p ss)[i]? = some t) :
    ∃ (j : Nat) (b : ShelfM), t.l[0]? = some (j : Int) ∧ ss[j]? = some b ∧ (¬ s.d + b.d ≤ p.d ∨ ¬ s.g + b.g ≤ p.g) ∧ (0 ≤ s.d ∧ s.d ≤ 2000 ∧ 0 ≤ s.g ∧ s.g ≤ 100000 ∧ 1 ≤ b.d ∧ b.d ≤ 2000 ∧ 1 ≤ b.g ∧ b.g ≤ 100000) := by
  have hpp := pallet_in (show palletOkM p = true by simp only [shelvesOkM, Bool.and_eq_true] at hok; exact hok.1)
  obtain ⟨j, b, h1, h2, h3⟩ := lay_need hok hs (show (layersM p ss)[i - 1 + 1]? = some t by rw [show i - 1 + 1 = i from by omega]; exact ht)
  simp only [layRoom, Bool.and_eq_false_iff, decide_eq_false_iff_not] at h3
  have hb := lay_ok hok s (List.mem_of_getElem? hs)
  have hbx := heap_in (show heapOkM p b.d b.h b.g = true by simp only [shelvesOkM, Bool.and_eq_true, List.all_eq_true] at hok; exact hok.2 b (List.mem_of_getElem? h2))
  exact ⟨j, b, h1, h2, h3, by omega⟩
theorem load_step {p : PalletM} {ss : List LayerM} (hok : stacksOkM p ss = true) {i : Nat} {s t : LoadM} (hi : 0 < i) (hs : (loadsM p ss)[i - 1]? = some s) (ht : (loadsM p ss)[i]? = some t) :
    ∃ (j : Nat) (b : LayerM), t.l[0]? = some (j : Int) ∧ ss[j]? = some b ∧ (¬ s.h + b.h ≤ p.h ∨ ¬ s.g + b.g ≤ p.g) ∧ (0 ≤ s.h ∧ s.h ≤ 2000 ∧ 0 ≤ s.g ∧ s.g ≤ 100000 ∧ 1 ≤ b.h ∧ b.h ≤ 2000 ∧ 1 ≤ b.g ∧ b.g ≤ 100000) := by
  have hpp := pallet_in (show palletOkM p = true by simp only [stacksOkM, Bool.and_eq_true] at hok; exact hok.1)
  obtain ⟨j, b, h1, h2, h3⟩ := load_need hok hs (show (loadsM p ss)[i - 1 + 1]? = some t by rw [show i - 1 + 1 = i from by omega]; exact ht)
  simp only [loadRoom, Bool.and_eq_false_iff, decide_eq_false_iff_not] at h3
  have hb := load_ok hok s (List.mem_of_getElem? hs)
  have hbx := heap_in (show heapOkM p b.d b.h b.g = true by simp only [stacksOkM, Bool.and_eq_true, List.all_eq_true] at hok; exact hok.2 b (List.mem_of_getElem? h2))
  exact ⟨j, b, h1, h2, h3, by omega⟩
end Go.Proofs.Yticgeijklhlonaa
