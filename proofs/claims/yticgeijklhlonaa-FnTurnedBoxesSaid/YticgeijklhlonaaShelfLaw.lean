/-
  What piles keep: their order, their need, their sums. No program is in sight here.
-/
import Derived.Test.YticgeijklhlonaaShelfP
namespace Go.Proofs.Yticgeijklhlonaa
open Go.RowKit
section
variable {M S : Type} {room : M → S → Bool} {add : M → Nat → S → M} {z : M} (f : M → List Int) (hz : f z = []) (ha : ∀ t k s, f (add t k s) = f t ++ [(k : Int)])
include hz ha
theorem step_flat (out : List M) (x : S × Nat) : ((pileStep room add z out x).map f).flatten = (out.map f).flatten ++ [(x.2 : Int)] := by
  rcases List.eq_nil_or_concat out with h | ⟨o, t, h⟩
  · subst h; simp [pileStep, ha, hz]
  · rw [List.concat_eq_append] at h
    subst h
    unfold pileStep
    simp only [List.getLast?_concat]
    split
    · rw [List.length_append, List.length_singleton, Nat.add_sub_cancel, List.set_append_right _ _ (Nat.le_refl _), Nat.sub_self, List.set_cons_zero]
      simp [ha]
    · simp [ha, hz]
theorem pile_flat : ∀ (xs : List (S × Nat)) (out : List M), ((xs.foldl (pileStep room add z) out).map f).flatten = (out.map f).flatten ++ xs.map fun x => (x.2 : Int)
  | [], out => by simp
  | x :: r, out => by rw [List.foldl_cons, pile_flat r, step_flat f hz ha]; simp
theorem pile_ne (xs : List (S × Nat)) : ∀ t ∈ xs.foldl (pileStep room add z) [], f t ≠ [] :=
  pile_inv (P := fun t => f t ≠ []) xs [] (fun x _ => ⟨by have := hz; simp [ha], fun t _ _ => by simp [ha]⟩) (by simp)
theorem pile_need (XS : List (S × Nat)) : ∀ (xs : List (S × Nat)) (out : List M), (∀ x ∈ xs, x ∈ XS) → (∀ t ∈ out, f t ≠ []) → (∀ i s t, out[i]? = some s → out[i + 1]? = some t → ∃ x ∈ XS, (f t)[0]? = some (x.2 : Int) ∧ room s x.1 = false) →
    ∀ i s t, (xs.foldl (pileStep room add z) out)[i]? = some s → (xs.foldl (pileStep room add z) out)[i + 1]? = some t → ∃ x ∈ XS, (f t)[0]? = some (x.2 : Int) ∧ room s x.1 = false
  | [], out, _, _, h => h
  | x :: r, out, hx, hne, h => by
    rw [List.foldl_cons]
    refine pile_need XS r _ (fun y hy => hx y (List.mem_cons_of_mem _ hy)) (pileStep_inv (P := fun t => f t ≠ []) (by simp [ha]) (fun t _ _ => by simp [ha]) hne) ?_
    intro i s t hs ht
    rcases List.eq_nil_or_concat out with h0 | ⟨o, u, h0⟩
    · subst h0
      simp only [pileStep, List.getLast?_nil, List.nil_append] at ht
      simp at ht
    · rw [List.concat_eq_append] at h0
      subst h0
      have hu : f u ≠ [] := hne u (by simp)
      unfold pileStep at hs ht
      simp only [List.getLast?_concat] at hs ht
      by_cases hr : room u x.1 = true
      · rw [if_pos hr, List.length_append, List.length_singleton, Nat.add_sub_cancel, List.set_append_right _ _ (Nat.le_refl _), Nat.sub_self, List.set_cons_zero] at hs ht
        have hlt : i + 1 < o.length + 1 := by
          rcases Nat.lt_or_ge (i + 1) (o ++ [add u x.2 x.1]).length with h1 | h1
          · simpa using h1
          · rw [List.getElem?_eq_none h1] at ht; cases ht
        have hs' : (o ++ [u])[i]? = some s := by
          rw [List.getElem?_append_left (by omega)] at hs ⊢; exact hs
        by_cases hi : i + 1 < o.length
        · rw [List.getElem?_append_left hi] at ht
          exact h i s t hs' (by rw [List.getElem?_append_left hi]; exact ht)
        · have e : i + 1 = o.length := by omega
          rw [e, List.getElem?_append_right (Nat.le_refl _), Nat.sub_self] at ht
          simp only [List.getElem?_cons_zero, Option.some.injEq] at ht
          subst ht
          obtain ⟨y, hy, h1, h2⟩ := h i s u hs' (by rw [e, List.getElem?_append_right (Nat.le_refl _), Nat.sub_self]; rfl)
          refine ⟨y, hy, ?_, h2⟩
          rw [ha, List.getElem?_append_left (by cases hfu : f u with | nil => exact absurd hfu hu | cons _ _ => simp)]
          exact h1
      · rw [if_neg hr] at hs ht
        have hlt : i + 1 < o.length + 2 := by
          rcases Nat.lt_or_ge (i + 1) (o ++ [u] ++ [add z x.2 x.1]).length with h1 | h1
          · simpa using h1
          · rw [List.getElem?_eq_none h1] at ht; cases ht
        have hs' : (o ++ [u])[i]? = some s := by
          rw [List.getElem?_append_left (by simp; omega)] at hs; exact hs
        by_cases hi : i + 1 < o.length + 1
        · rw [List.getElem?_append_left (by simpa using hi)] at ht
          exact h i s t hs' ht
        · have e : i = o.length := by omega
          subst e
          rw [List.getElem?_append_right (by simp)] at ht
          simp at ht
          subst ht
          rw [List.getElem?_append_right (Nat.le_refl _), Nat.sub_self] at hs'
          simp only [List.getElem?_cons_zero, Option.some.injEq] at hs'
          subst hs'
          exact ⟨x, hx x List.mem_cons_self, by simp [ha, hz], by simpa using hr⟩
end
/-! ### Shelves -/
def wAt (l : List BoxM) (n : Int) : Int := (boxAt l n.toNat).w
def gAt (l : List BoxM) (n : Int) : Int := (boxAt l n.toNat).g
structure ShOk (p : PalletM) (l : List BoxM) (t : ShelfM) : Prop where
  at_ : ∀ n ∈ t.l, ∃ j : Nat, n = (j : Int) ∧ j < l.length ∧ (boxAt l j).d ≤ t.d ∧ (boxAt l j).h ≤ t.h
  ws : (t.l.map (wAt l)).sum = t.w
  gs : (t.l.map (gAt l)).sum = t.g
  wb : t.w ≤ p.w
  gb : t.g ≤ p.g
theorem shOk_add {p : PalletM} {l : List BoxM} {t : ShelfM} {x : BoxM × Nat} (hx : l[x.2]? = some x.1) (h : ∀ n ∈ t.l, ∃ j : Nat, n = (j : Int) ∧ j < l.length ∧ (boxAt l j).d ≤ t.d ∧ (boxAt l j).h ≤ t.h) (hw : (t.l.map (wAt l)).sum = t.w) (hg : (t.l.map (gAt l)).sum = t.g) (h1 : t.w + x.1.w ≤ p.w) (h2 : t.g + x.1.g ≤ p.g) : ShOk p l (shelfAdd t x.2 x.1) := by
  have hlt : x.2 < l.length := by
    rcases Nat.lt_or_ge x.2 l.length with h | h
    · exact h
    · rw [List.getElem?_eq_none h] at hx; cases hx
  have hb := boxAt_get hx
  refine ⟨fun n hn => ?_, ?_, ?_, h1, h2⟩
  · simp only [shelfAdd] at hn ⊢
    rcases List.mem_append.1 hn with hn | hn
    · obtain ⟨j, e, j1, j2, j3⟩ := h n hn
      exact ⟨j, e, j1, by omega, by omega⟩
    · exact ⟨x.2, List.mem_singleton.1 hn, hlt, by rw [hb]; omega, by rw [hb]; omega⟩
  · simp only [shelfAdd, List.map_append, List.sum_append, List.map_cons, List.map_nil, List.sum_cons, List.sum_nil, hw, wAt, Int.toNat_natCast, hb]; omega
  · simp only [shelfAdd, List.map_append, List.sum_append, List.map_cons, List.map_nil, List.sum_cons, List.sum_nil, hg, gAt, Int.toNat_natCast, hb]; omega
theorem shelf_ok {p : PalletM} {l : List BoxM} (hok : boxesOkM p l = true) : ∀ t ∈ shelvesM p l, ShOk p l t := by
  rw [shelvesM, if_pos hok]
  refine pile_inv (P := ShOk p l) _ _ (fun x hx => ?_) (by simp)
  have hx' := xs_mem hx
  have hm : x.1 ∈ l := List.mem_of_getElem? hx'
  simp only [boxesOkM, Bool.and_eq_true, List.all_eq_true] at hok
  have hh := box_in (hok.2 x.1 hm)
  refine ⟨shOk_add hx' (by simp [shelfZ]) (by simp [shelfZ]) (by simp [shelfZ]) (by simp only [shelfZ]; omega) (by simp only [shelfZ]; omega), fun t ht hr => ?_⟩
  simp only [shelfRoom, Bool.and_eq_true, decide_eq_true_eq] at hr
  exact shOk_add hx' ht.at_ ht.ws ht.gs hr.1 hr.2
theorem shelf_flat {p : PalletM} {l : List BoxM} (hok : boxesOkM p l = true) : ((shelvesM p l).map ShelfM.l).flatten = (ordM (keyM (l.map BoxM.d)) l.length).map fun (j : Nat) => (j : Int) := by
  rw [shelvesM, if_pos hok, pile, pile_flat ShelfM.l rfl (fun _ _ _ => rfl)]
  simp [shelfXs]
theorem shelf_ne {p : PalletM} {l : List BoxM} : ∀ t ∈ shelvesM p l, t.l ≠ [] := by
  unfold shelvesM; split
  · exact pile_ne ShelfM.l rfl (fun _ _ _ => rfl) _
  · simp
theorem shelf_need {p : PalletM} {l : List BoxM} {i : Nat} {s t : ShelfM} (hs : (shelvesM p l)[i]? = some s) (ht : (shelvesM p l)[i + 1]? = some t) : ∃ (j : Nat) (b : BoxM), t.l[0]? = some (j : Int) ∧ l[j]? = some b ∧ shelfRoom p s b = false := by
  unfold shelvesM at hs ht
  split at hs
  · rename_i hok
    rw [if_pos hok] at ht
    obtain ⟨x, hx, h1, h2⟩ := pile_need ShelfM.l rfl (fun _ _ _ => rfl) (shelfXs l) (shelfXs l) [] (fun _ h => h) (by simp) (by simp) i s t hs ht
    exact ⟨x.2, x.1, h1, xs_mem hx, h2⟩
  · simp at hs
theorem xs_desc (l : List BoxM) : (shelfXs l).Pairwise fun x y => y.1.d ≤ x.1.d := by
  rw [shelfXs, List.pairwise_map]
  refine List.Pairwise.imp_of_mem (fun {a b} ha hb h => ?_) (ordM_srt (keyM (l.map BoxM.d)) l.length)
  have h1 := ordM_mem.1 ha
  have h2 := ordM_mem.1 hb
  have e : ∀ j, j < l.length → keyM (l.map BoxM.d) j = -(boxAt l j).d := fun j hj => by
    simp [keyM, boxAt, List.getD_eq_getElem?_getD, hj]
  unfold bef at h
  rw [e a h1, e b h2] at h
  dsimp only; omega
structure Dsc (l : List BoxM) (out : List ShelfM) (xs : List (BoxM × Nat)) : Prop where
  pw : out.Pairwise fun s t => t.d ≤ s.d
  nx : ∀ t ∈ out, ∀ x ∈ xs, x.1.d ≤ t.d
  hd : ∀ t ∈ out, ∃ j : Nat, t.l[0]? = some (j : Int) ∧ t.d = (boxAt l j).d
theorem dsc_all {p : PalletM} {l : List BoxM} : ∀ (xs : List (BoxM × Nat)) (out : List ShelfM), xs.Pairwise (fun x y => y.1.d ≤ x.1.d) → (∀ x ∈ xs, 0 ≤ x.1.d ∧ l[x.2]? = some x.1) → Dsc l out xs → Dsc l (xs.foldl (pileStep (shelfRoom p) shelfAdd shelfZ) out) []
  | [], out, _, _, h => h
  | x :: r, out, hp, hx, h => by
    rw [List.foldl_cons]
    have hq := List.pairwise_cons.1 hp
    have hx0 := hx x List.mem_cons_self
    have hb := boxAt_get hx0.2
    refine dsc_all r _ hq.2 (fun y hy => hx y (List.mem_cons_of_mem _ hy)) ?_
    have new : ∀ t ∈ [shelfAdd shelfZ x.2 x.1], t.d = x.1.d ∧ ∃ j : Nat, t.l[0]? = some (j : Int) ∧ t.d = (boxAt l j).d := fun t ht => by
      rw [List.mem_singleton.1 ht]
      have e : (shelfAdd shelfZ x.2 x.1).d = x.1.d := by simp only [shelfAdd, shelfZ]; omega
      exact ⟨e, x.2, rfl, by rw [e, hb]⟩
    have app : Dsc l (out ++ [shelfAdd shelfZ x.2 x.1]) r := by
      refine ⟨List.pairwise_append.2 ⟨h.pw, List.pairwise_singleton _ _, fun s hs t ht => by rw [(new t ht).1]; exact h.nx s hs x List.mem_cons_self⟩, fun t ht y hy => ?_, fun t ht => ?_⟩
      · rcases List.mem_append.1 ht with ht | ht
        · exact h.nx t ht y (List.mem_cons_of_mem _ hy)
        · rw [(new t ht).1]; exact hq.1 y hy
      · rcases List.mem_append.1 ht with ht | ht
        · exact h.hd t ht
        · exact (new t ht).2
    rcases List.eq_nil_or_concat out with h0 | ⟨o, u, h0⟩
    · subst h0; exact app
    · rw [List.concat_eq_append] at h0
      subst h0
      unfold pileStep
      simp only [List.getLast?_concat]
      split
      · rw [List.length_append, List.length_singleton, Nat.add_sub_cancel, List.set_append_right _ _ (Nat.le_refl _), Nat.sub_self, List.set_cons_zero]
        have hu : u ∈ o ++ [u] := by simp
        have e : (shelfAdd u x.2 x.1).d = u.d := by
          have := h.nx u hu x List.mem_cons_self
          simp only [shelfAdd]; omega
        have hpw := List.pairwise_append.1 h.pw
        refine ⟨List.pairwise_append.2 ⟨hpw.1, List.pairwise_singleton _ _, fun s hs t ht => by rw [List.mem_singleton.1 ht, e]; exact hpw.2.2 s hs u (by simp)⟩, fun t ht y hy => ?_, fun t ht => ?_⟩
        · rcases List.mem_append.1 ht with ht | ht
          · exact h.nx t (List.mem_append_left _ ht) y (List.mem_cons_of_mem _ hy)
          · rw [List.mem_singleton.1 ht, e]; exact h.nx u hu y (List.mem_cons_of_mem _ hy)
        · rcases List.mem_append.1 ht with ht | ht
          · exact h.hd t (List.mem_append_left _ ht)
          · rw [List.mem_singleton.1 ht]
            obtain ⟨j, h1, h2⟩ := h.hd u hu
            refine ⟨j, ?_, by rw [e, h2]⟩
            simp only [shelfAdd]
            rw [List.getElem?_append_left]
            · exact h1
            · rcases Nat.lt_or_ge 0 u.l.length with h3 | h3
              · exact h3
              · rw [List.getElem?_eq_none h3] at h1; cases h1
      · exact app
theorem shelf_dsc {p : PalletM} {l : List BoxM} (hok : boxesOkM p l = true) : Dsc l (shelvesM p l) [] := by
  rw [shelvesM, if_pos hok]
  refine dsc_all _ _ (xs_desc l) (fun x hx => ?_) ⟨List.Pairwise.nil, by simp, by simp⟩
  have hx' := xs_mem hx
  simp only [boxesOkM, Bool.and_eq_true, List.all_eq_true] at hok
  have := box_in (hok.2 x.1 (List.mem_of_getElem? hx'))
  exact ⟨by omega, hx'⟩
theorem shelf_down {p : PalletM} {l : List BoxM} (hok : boxesOkM p l = true) {i : Nat} {s t : ShelfM} (hs : (shelvesM p l)[i]? = some s) (ht : (shelvesM p l)[i + 1]? = some t) : t.d ≤ s.d := by
  have h := (shelf_dsc hok).pw
  rw [List.pairwise_iff_getElem] at h
  have h1 : i < (shelvesM p l).length := by
    rcases Nat.lt_or_ge i (shelvesM p l).length with h | h
    · exact h
    · rw [List.getElem?_eq_none h] at hs; cases hs
  have h2 : i + 1 < (shelvesM p l).length := by
    rcases Nat.lt_or_ge (i + 1) (shelvesM p l).length with h | h
    · exact h
    · rw [List.getElem?_eq_none h] at ht; cases ht
  have := h i (i + 1) h1 h2 (by omega)
  rw [List.getElem?_eq_getElem h1] at hs
  rw [List.getElem?_eq_getElem h2] at ht
  rw [Option.some.inj hs, Option.some.inj ht] at this
  exact this
theorem count_ord {K : Nat → Int} {n j : Nat} (h : j < n) : ((ordM K n).map fun (j : Nat) => (j : Int)).count (j : Int) = 1 := by
  have hp := (ordM_perm K n).map fun (j : Nat) => (j : Int)
  rw [hp.count_eq]
  have hn : ((List.range n).map fun (j : Nat) => (j : Int)).Nodup := by
    rw [List.nodup_iff_pairwise_ne, List.pairwise_map]
    exact (List.nodup_iff_pairwise_ne.1 List.nodup_range).imp fun h e => h (by omega)
  rw [List.Nodup.count hn, if_pos]
  exact List.mem_map.2 ⟨j, List.mem_range.2 h, rfl⟩
theorem psum_le {l : List Int} {F : Int → Int} (h : ∀ x ∈ l, 0 ≤ F x) (k : Nat) : 0 ≤ ((l.take k).map F).sum ∧ ((l.take k).map F).sum ≤ (l.map F).sum := by
  have nn : ∀ (l : List Int), (∀ x ∈ l, 0 ≤ F x) → 0 ≤ (l.map F).sum := by
    intro l hl
    induction l with
    | nil => simp
    | cons x r ih =>
      have := ih fun y hy => hl y (List.mem_cons_of_mem _ hy)
      have := hl x List.mem_cons_self
      simp only [List.map_cons, List.sum_cons]; omega
  have h1 := nn (l.take k) fun x hx => h x (List.mem_of_mem_take hx)
  have h2 := nn (l.drop k) fun x hx => h x (List.mem_of_mem_drop hx)
  have e : (l.map F).sum = ((l.take k).map F).sum + ((l.drop k).map F).sum := by
    rw [← List.sum_append, ← List.map_append, List.take_append_drop]
  omega
theorem psum_next {l : List Int} {F : Int → Int} {k : Nat} {x : Int} (h : l[k]? = some x) : ((l.take (k + 1)).map F).sum = ((l.take k).map F).sum + F x := by
  rw [List.take_add_one, h]; simp
end Go.Proofs.Yticgeijklhlonaa
