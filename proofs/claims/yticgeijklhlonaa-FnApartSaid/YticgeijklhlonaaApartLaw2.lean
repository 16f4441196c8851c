/-
  Where boxes stand: all of them, once each; what lies on a pallet. No program is in sight here.
-/
import Derived.Test.YticgeijklhlonaaApartLaw
namespace Go.Proofs.Yticgeijklhlonaa
open Go.RowKit
section
variable {p : PalletM} {l : List BoxM}
theorem ly_ok (hok : boxesOkM p l = true) : ∀ t ∈ layersM p (shelvesM p l), LyOk p l (shelvesM p l) t := by
  rw [layersM, if_pos (shelves_okL hok)]
  refine pile_inv (P := LyOk p l (shelvesM p l)) _ _ (fun x hx => ?_) (by simp)
  have hz := zip_mem hx
  have hm := List.mem_of_getElem? hz
  have ha := shAt_get hz
  have hg := shelf_ge hok x.1 hm
  have hs := shelf_ok hok x.1 hm
  refine ⟨⟨fun k hk => ?_, ?_, ?_, ?_, ?_⟩, fun t ht hr => ⟨fun k hk => ?_, ?_, ?_, ?_, ?_⟩⟩
  · rw [List.mem_singleton.1 hk, ha]; exact ⟨hs, by simp only [layAdd, layZ]; omega, hg.2.2.1⟩
  · simp [layAdd, layZ, ha]
  · simp [layAdd, layZ, ha]
  · simp only [layAdd, layZ]; omega
  · simp only [layAdd, layZ]; omega
  · simp only [layAdd] at hk ⊢
    rcases List.mem_append.1 hk with hk | hk
    · have := ht.at_ k hk; exact ⟨this.1, by omega, this.2.2⟩
    · rw [List.mem_singleton.1 hk, ha]; exact ⟨hs, by omega, hg.2.2.1⟩
  · simp only [layAdd, List.map_append, List.sum_append, ht.ds, List.map_cons, List.map_nil, List.sum_cons, List.sum_nil, ha]; omega
  · simp only [layAdd, List.map_append, List.sum_append, ht.gs, List.map_cons, List.map_nil, List.sum_cons, List.sum_nil, ha]; omega
  · simp only [layRoom, Bool.and_eq_true, decide_eq_true_eq] at hr
    simp only [layAdd]; omega
  · have := ht.h1; simp only [layAdd]; omega
theorem ld_ok (hok : boxesOkM p l = true) : ∀ t ∈ loadsM p (layersM p (shelvesM p l)), LdOk p l (shelvesM p l) (layersM p (shelvesM p l)) t := by
  rw [loadsM, if_pos (lay_stacks (shelves_okL hok))]
  refine pile_inv (P := LdOk p l (shelvesM p l) (layersM p (shelvesM p l))) _ _ (fun x hx => ?_) (by simp)
  have hz := zip_mem hx
  have hm := List.mem_of_getElem? hz
  have ha := lyAt_get hz
  have hg := lay_ok (shelves_okL hok) x.1 hm
  have hs := ly_ok hok x.1 hm
  refine ⟨⟨fun k hk => ?_, ?_, ?_, ?_⟩, fun t ht hr => ⟨fun k hk => ?_, ?_, ?_, ?_⟩⟩
  · rw [List.mem_singleton.1 hk, ha]; exact hs
  · simp [loadAdd, loadZ, ha]
  · simp [loadAdd, loadZ, ha]
  · simp only [loadAdd, loadZ]; omega
  · simp only [loadAdd] at hk
    rcases List.mem_append.1 hk with hk | hk
    · exact ht.at_ k hk
    · rw [List.mem_singleton.1 hk, ha]; exact hs
  · simp only [loadAdd, List.map_append, List.sum_append, ht.hs, List.map_cons, List.map_nil, List.sum_cons, List.sum_nil, ha]; omega
  · simp only [loadAdd, List.map_append, List.sum_append, ht.gs, List.map_cons, List.map_nil, List.sum_cons, List.sum_nil, ha]; omega
  · simp only [loadRoom, Bool.and_eq_true, decide_eq_true_eq] at hr
    simp only [loadAdd]; omega
theorem flat_flat {M : Type} {f : M → List Int} {C : Int → List Int} : ∀ (ms : List M), (ms.flatMap fun t => (f t).flatMap C) = ((ms.map f).flatten).flatMap C
  | [] => rfl
  | t :: r => by simp [flat_flat r]
theorem TT_fst {ss : List ShelfM} {ls : List LayerM} : ∀ (ms : List LoadM) (o : Nat), (TT ss ls (ms.zipIdx o)).map Prod.fst = ((ms.map LoadM.l).flatten).flatMap (CC ss ls)
  | [], _ => by simp [TT]
  | t :: r, o => by
    have ih := TT_fst (ss := ss) (ls := ls) r (o + 1)
    have e : (Prod.fst ∘ fun b : Int => (b, (o : Int))) = id := rfl
    simp only [TT] at ih ⊢
    rw [List.zipIdx_cons, List.flatMap_cons, List.map_append, ih, List.map_map, e, List.map_id]
    simp
theorem range_at {M : Type} {ms : List M} {f : Int → M} (h : ∀ (j : Nat) t, ms[j]? = some t → f (j : Int) = t) : ((List.range ms.length).map fun (j : Nat) => (j : Int)).map f = ms := by
  apply List.ext_getElem?
  intro j
  by_cases hj : j < ms.length
  · rw [List.getElem?_map, List.getElem?_map, List.getElem?_range hj]
    simp only [Option.map_some]
    rw [h j _ (List.getElem?_eq_getElem hj), List.getElem?_eq_getElem hj]
  · rw [List.getElem?_eq_none (by simpa using hj), List.getElem?_eq_none (by omega)]
theorem range_CC {ss : List ShelfM} {ls : List LayerM} : ((List.range ls.length).map fun (j : Nat) => (j : Int)).flatMap (CC ss ls) = ((ls.map LayerM.l).flatten).flatMap (BB ss) := by
  rw [← flat_flat]
  have e : ((List.range ls.length).map fun (j : Nat) => (j : Int)).flatMap (CC ss ls) = (((List.range ls.length).map fun (j : Nat) => (j : Int)).map (lyAt ls)).flatMap fun Y => Y.l.flatMap (BB ss) := by
    simp only [List.flatMap_map]; rfl
  rw [e, range_at (fun j t h => lyAt_get h)]
theorem range_BB {ss : List ShelfM} : ((List.range ss.length).map fun (j : Nat) => (j : Int)).flatMap (BB ss) = (ss.map ShelfM.l).flatten := by
  have e : ((List.range ss.length).map fun (j : Nat) => (j : Int)).flatMap (BB ss) = (((List.range ss.length).map fun (j : Nat) => (j : Int)).map (shAt ss)).flatMap fun Y => Y.l := by
    simp only [List.flatMap_map]; rfl
  rw [e, range_at (fun j t h => shAt_get h), List.flatMap_def]
def TM (p : PalletM) (l : List BoxM) : List (Int × Int) := TT (shelvesM p l) (layersM p (shelvesM p l)) (loadsM p (layersM p (shelvesM p l))).zipIdx
theorem TM_fst (hok : boxesOkM p l = true) : (TM p l).map Prod.fst = (ordM (keyM (l.map BoxM.d)) l.length).map fun (j : Nat) => (j : Int) := by
  rw [TM, TT_fst, load_flat (lay_stacks (shelves_okL hok)), range_CC, lay_flat (shelves_okL hok), range_BB, shelf_flat hok]
theorem TM_perm (hok : boxesOkM p l = true) : ((TM p l).map Prod.fst).Perm ((List.range l.length).map fun (j : Nat) => (j : Int)) := by
  rw [TM_fst hok]; exact (ordM_perm _ _).map _
theorem TM_nodup (hok : boxesOkM p l = true) : ((TM p l).map Prod.fst).Nodup := by
  rw [(TM_perm hok).nodup_iff, List.nodup_iff_pairwise_ne, List.pairwise_map]
  exact (List.nodup_iff_pairwise_ne.1 List.nodup_range).imp fun h e => h (by omega)
theorem box_okA (hok : boxesOkM p l = true) {j : Nat} (hj : j < l.length) : boxOkM p (boxAt l j) = true := by
  simp only [boxesOkM, Bool.and_eq_true, List.all_eq_true] at hok
  rw [boxAt_get (List.getElem?_eq_getElem hj)]
  exact hok.2 _ (List.getElem_mem hj)
theorem pal_okA (hok : boxesOkM p l = true) : palletOkM p = true := by simp only [boxesOkM, Bool.and_eq_true] at hok; exact hok.1
theorem spots_inv (hok : boxesOkM p l = true) : Inv p l (spotsM p l) (TM p l) (F0 ((loadsM p (layersM p (shelvesM p l))).length : Int)) := by
  have hpp := pallet_in (pal_okA hok)
  have h := loads_inv (p := p) (l := l) (ss := shelvesM p l) (ls := layersM p (shelvesM p l)) (by omega) (by omega) (by omega) (fun j hj => (box_in (box_okA hok hj)).1) (loadsM p (layersM p (shelvesM p l))) 0 [] (List.replicate l.length ⟨0, 0, 0, 0⟩) (ld_ok hok)
    (by simpa [TM] using TM_nodup hok) ⟨by simp, by simp, by simp⟩
  rw [spotsM, if_pos hok]
  simpa [TM] using h
theorem TM_at (hok : boxesOkM p l = true) {j : Nat} (hj : j < l.length) : ∃ e ∈ TM p l, e.1 = (j : Int) := by
  have : (j : Int) ∈ (TM p l).map Prod.fst := (TM_perm hok).mem_iff.2 (List.mem_map.2 ⟨j, List.mem_range.2 hj, rfl⟩)
  obtain ⟨e, he, h⟩ := List.mem_map.1 this
  exact ⟨e, he, h⟩
theorem spot_in (hok : boxesOkM p l = true) {j : Nat} (hj : j < l.length) : ∃ s, (spotsM p l)[j]? = some s ∧ Inn p (boxAt l j) s ∧ s.p < ((loadsM p (layersM p (shelvesM p l))).length : Int) := by
  obtain ⟨e, he, h⟩ := TM_at hok hj
  obtain ⟨i, s, h1, h2, h3, h4, h5, h6⟩ := (spots_inv hok).at_ e he
  have : i = j := by omega
  subst this
  exact ⟨s, h3, h5, h6⟩
theorem spot_ap (hok : boxesOkM p l = true) {i j : Nat} (hi : i < l.length) (hj : j < l.length) (hij : i ≠ j) {s t : SpotM} (hs : (spotsM p l)[i]? = some s) (ht : (spotsM p l)[j]? = some t) : Sep (boxAt l i) s (boxAt l j) t := by
  obtain ⟨e, he, h⟩ := TM_at hok hi
  obtain ⟨e', he', h'⟩ := TM_at hok hj
  have := (spots_inv hok).ap e he e' he' (by omega) s t (by rw [h]; exact hs) (by rw [h']; exact ht)
  rw [h, h'] at this
  simpa using this
/-! ### Weights -/
def spAt (out : List SpotM) (j : Nat) : SpotM := out.getD j ⟨0, 0, 0, 0⟩
theorem spAt_get {out : List SpotM} {j : Nat} {s : SpotM} (h : out[j]? = some s) : spAt out j = s := by simp [spAt, List.getD_eq_getElem?_getD, h]
def gsumM (l : List BoxM) (out : List SpotM) (i k : Nat) : Int := ((List.range i).map fun j => if (spAt out j).p = (k : Int) then (boxAt l j).g else 0).sum
theorem gsum_next (l : List BoxM) (out : List SpotM) (i k : Nat) : gsumM l out (i + 1) k = gsumM l out i k + if (spAt out i).p = (k : Int) then (boxAt l i).g else 0 := by
  simp [gsumM, List.range_succ]
theorem sum_flat {B : Int → List Int} {f : Int → Int} : ∀ (ks : List Int), ((ks.flatMap B).map f).sum = (ks.map fun k => ((B k).map f).sum).sum
  | [] => by simp
  | k :: r => by simp [sum_flat r]
theorem sum_congr {f g : Int → Int} : ∀ {ks : List Int}, (∀ k ∈ ks, f k = g k) → (ks.map f).sum = (ks.map g).sum
  | [], _ => rfl
  | k :: r, h => by simp only [List.map_cons, List.sum_cons]; rw [h k List.mem_cons_self, sum_congr fun x hx => h x (List.mem_cons_of_mem _ hx)]
theorem ly_gram {ss : List ShelfM} {t : LayerM} (h : LyOk p l ss t) : ((t.l.flatMap (BB ss)).map (gAt l)).sum = t.g := by
  rw [sum_flat, ← h.gs]
  exact sum_congr fun k hk => (h.at_ k hk).1.gs
theorem ld_gram {ss : List ShelfM} {ls : List LayerM} {t : LoadM} (h : LdOk p l ss ls t) : ((t.l.flatMap (CC ss ls)).map (gAt l)).sum = t.g := by
  rw [sum_flat, ← h.gs]
  exact sum_congr fun k hk => ly_gram (h.at_ k hk)
def wk (l : List BoxM) (k : Nat) (e : Int × Int) : Int := if e.2 = (k : Int) then gAt l e.1 else 0
theorem wk_one {o k : Nat} {bs : List Int} : ((bs.map fun b => (b, (o : Int))).map (wk l k)).sum = if o = k then (bs.map (gAt l)).sum else 0 := by
  rw [List.map_map]
  by_cases h : o = k
  · subst h
    rw [if_pos rfl]; congr 1
    apply List.map_congr_left
    intro b _
    simp [wk]
  · rw [if_neg h]
    have : (bs.map (wk l k ∘ fun b => (b, (o : Int)))) = bs.map fun _ => (0 : Int) := by
      apply List.map_congr_left
      intro b _
      simp only [Function.comp, wk]
      rw [if_neg (by omega)]
    rw [this]
    induction bs with
    | nil => rfl
    | cons b r ih => simp_all
theorem TT_below {ss : List ShelfM} {ls : List LayerM} {k : Nat} : ∀ (ms : List LoadM) (o : Nat), k < o → ((TT ss ls (ms.zipIdx o)).map (wk l k)).sum = 0
  | [], _, _ => by simp [TT]
  | t :: r, o, h => by
    have ih := TT_below (ss := ss) (ls := ls) (k := k) r (o + 1) (by omega)
    simp only [TT] at ih ⊢
    rw [List.zipIdx_cons, List.flatMap_cons, List.map_append, List.sum_append, ih, wk_one, if_neg (show ¬ o = k by omega)]; rfl
theorem TT_gram {ss : List ShelfM} {ls : List LayerM} : ∀ (ms : List LoadM) (o k : Nat) (t : LoadM), (∀ t ∈ ms, LdOk p l ss ls t) → ms[k]? = some t → ((TT ss ls (ms.zipIdx o)).map (wk l (o + k))).sum = t.g
  | [], _, _, _, _, h => by simp at h
  | u :: r, o, 0, t, hok, h => by
    simp only [List.getElem?_cons_zero, Option.some.injEq] at h
    subst h
    have ih := TT_below (l := l) (ss := ss) (ls := ls) (k := o) r (o + 1) (by omega)
    simp only [TT] at ih ⊢
    rw [List.zipIdx_cons, List.flatMap_cons, List.map_append, List.sum_append, Nat.add_zero, ih, wk_one, if_pos rfl, ld_gram (hok u List.mem_cons_self)]; omega
  | u :: r, o, k + 1, t, hok, h => by
    simp only [List.getElem?_cons_succ] at h
    have ih := TT_gram (ss := ss) (ls := ls) r (o + 1) k t (fun x hx => hok x (List.mem_cons_of_mem _ hx)) h
    simp only [TT] at ih ⊢
    rw [List.zipIdx_cons, List.flatMap_cons, List.map_append, List.sum_append, wk_one, if_neg (show ¬ o = o + (k + 1) by omega), show o + (k + 1) = o + 1 + k from by omega, ih]; omega
theorem perm_sum {xs ys : List Int} (h : xs.Perm ys) : xs.sum = ys.sum := by
  induction h with
  | nil => rfl
  | cons x _ ih => simp [ih]
  | swap x y l => simp only [List.sum_cons]; omega
  | trans _ _ h1 h2 => exact h1.trans h2
theorem gsum_all (hok : boxesOkM p l = true) {k : Nat} {t : LoadM} (ht : (loadsM p (layersM p (shelvesM p l)))[k]? = some t) : gsumM l (spotsM p l) l.length k = t.g := by
  have h1 := TT_gram (p := p) (l := l) (ss := shelvesM p l) (ls := layersM p (shelvesM p l)) (loadsM p (layersM p (shelvesM p l))) 0 k t (ld_ok hok) ht
  rw [Nat.zero_add] at h1
  rw [← h1]
  have e1 : gsumM l (spotsM p l) l.length k = (((List.range l.length).map fun (j : Nat) => (j : Int)).map fun b : Int => if (spAt (spotsM p l) b.toNat).p = (k : Int) then gAt l b else 0).sum := by
    rw [gsumM, List.map_map]; congr 1
  rw [e1, ← perm_sum ((TM_perm hok).map _), List.map_map]
  congr 1
  apply List.map_congr_left
  intro e he
  obtain ⟨j, s, h1, h2, h3, h4, _, _⟩ := (spots_inv hok).at_ e he
  simp only [Function.comp, wk, h1, Int.toNat_natCast, spAt_get h3, h4]
theorem gsum_bd (hok : boxesOkM p l = true) (k : Nat) : ∀ i, i ≤ l.length → 0 ≤ gsumM l (spotsM p l) i k ∧ gsumM l (spotsM p l) i k ≤ 100000 * i
  | 0, _ => by simp [gsumM]
  | i + 1, h => by
    have ih := gsum_bd hok k i (by omega)
    have hb := box_in (box_okA hok (j := i) (by omega))
    have hp := pallet_in (pal_okA hok)
    rw [gsum_next]
    split <;> omega
theorem pal_facts : ∀ (out : List SpotM) (n : Int), 0 ≤ n → n ≤ out.foldl palStep n ∧ (∀ s ∈ out, 0 ≤ s.p → s.p ≤ 999999 → s.p < out.foldl palStep n) ∧ ∀ N : Int, n ≤ N → (∀ s ∈ out, s.p < N) → out.foldl palStep n ≤ N
  | [], n, h => ⟨Int.le_refl n, by simp, fun N hN _ => hN⟩
  | s :: r, n, h => by
    have hs : n ≤ palStep n s ∧ (0 ≤ s.p → s.p ≤ 999999 → s.p < palStep n s) ∧ ∀ N, n ≤ N → s.p < N → palStep n s ≤ N := by
      unfold palStep inB
      split
      · exact ⟨by omega, fun _ _ => by omega, fun N h1 h2 => by omega⟩
      · rename_i hc
        simp only [Bool.and_eq_true, decide_eq_true_eq] at hc
        exact ⟨Int.le_refl n, fun h1 h2 => by omega, fun N h1 _ => h1⟩
    have ih := pal_facts r (palStep n s) (by omega)
    rw [List.foldl_cons]
    refine ⟨by omega, fun t ht h1 h2 => ?_, fun N h1 h2 => ih.2.2 N (hs.2.2 N h1 (h2 s List.mem_cons_self)) fun t ht => h2 t (List.mem_cons_of_mem _ ht)⟩
    rcases List.mem_cons.1 ht with rfl | ht
    · have := hs.2.1 h1 h2; omega
    · exact ih.2.1 t ht h1 h2
end
end Go.Proofs.Yticgeijklhlonaa
