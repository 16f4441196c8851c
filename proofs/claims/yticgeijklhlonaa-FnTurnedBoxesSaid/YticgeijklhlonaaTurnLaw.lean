/-
  Boxes that are told in another order. No program is in sight here.
-/
import Derived.Test.YticgeijklhlonaaShelfLaw
namespace Go.Proofs.Yticgeijklhlonaa
open Go.RowKit
def er (t : ShelfM) : Int × Int × Int × Int := (t.w, t.d, t.h, t.g)
theorem step_er {p : PalletM} {o1 o2 : List ShelfM} {x1 x2 : BoxM × Nat} (h : o1.map er = o2.map er) (hx : x1.1 = x2.1) : (pileStep (shelfRoom p) shelfAdd shelfZ o1 x1).map er = (pileStep (shelfRoom p) shelfAdd shelfZ o2 x2).map er := by
  have hl : o1.length = o2.length := by have := congrArg List.length h; simpa using this
  rcases List.eq_nil_or_concat o1 with h1 | ⟨a, u, h1⟩
  · subst h1
    have : o2 = [] := List.eq_nil_of_length_eq_zero (by simpa using hl.symm)
    subst this
    simp [pileStep, er, shelfAdd, hx]
  · rcases List.eq_nil_or_concat o2 with h2 | ⟨b, v, h2⟩
    · subst h2; rw [h1, List.concat_eq_append] at hl; simp at hl
    · rw [List.concat_eq_append] at h1 h2
      subst h1 h2
      rw [List.map_append, List.map_append] at h
      have hab := List.append_inj' h (by simp)
      have huv : er u = er v := by simpa using hab.2
      simp only [er, Prod.mk.injEq] at huv
      obtain ⟨e1, e2, e3, e4⟩ := huv
      unfold pileStep
      simp only [List.getLast?_concat, List.length_append, List.length_singleton, Nat.add_sub_cancel]
      have hr : shelfRoom p u x1.1 = shelfRoom p v x2.1 := by simp only [shelfRoom, e1, e4, hx]
      rw [hr]
      split
      · rw [List.set_append_right _ _ (Nat.le_refl _), List.set_append_right _ _ (Nat.le_refl _), Nat.sub_self, Nat.sub_self, List.set_cons_zero, List.set_cons_zero, List.map_append, List.map_append, hab.1]
        simp [er, shelfAdd, e1, e2, e3, e4, hx]
      · rw [List.map_append, List.map_append, List.map_append, List.map_append, hab.1]
        simp [er, shelfAdd, e1, e2, e3, e4, hx]
theorem fold_er {p : PalletM} : ∀ {x1 x2 : List (BoxM × Nat)} {o1 o2 : List ShelfM}, o1.map er = o2.map er → x1.map Prod.fst = x2.map Prod.fst → (x1.foldl (pileStep (shelfRoom p) shelfAdd shelfZ) o1).map er = (x2.foldl (pileStep (shelfRoom p) shelfAdd shelfZ) o2).map er
  | [], [], _, _, h, _ => h
  | [], _ :: _, _, _, _, hx => by simp at hx
  | _ :: _, [], _, _, _, hx => by simp at hx
  | a :: r, b :: s, o1, o2, h, hx => by
    simp only [List.map_cons, List.cons.injEq] at hx
    rw [List.foldl_cons, List.foldl_cons]
    exact fold_er (step_er h hx.1) hx.2
theorem desc_uniq : ∀ {xs ys : List BoxM}, xs.Pairwise (fun x y => y.d < x.d) → ys.Pairwise (fun x y => y.d < x.d) → (∀ x, x ∈ xs ↔ x ∈ ys) → xs = ys
  | [], [], _, _, _ => rfl
  | [], y :: _, _, _, h => by have := (h y).2 (List.mem_cons_self); cases this
  | x :: _, [], _, _, h => by have := (h x).1 (List.mem_cons_self); cases this
  | x :: xs, y :: ys, h1, h2, h => by
    have p1 := List.pairwise_cons.1 h1
    have p2 := List.pairwise_cons.1 h2
    have e : x = y := by
      rcases List.mem_cons.1 ((h x).1 List.mem_cons_self) with e | e
      · exact e
      · rcases List.mem_cons.1 ((h y).2 List.mem_cons_self) with e2 | e2
        · exact e2.symm
        · have := p1.1 _ e2; have := p2.1 _ e; omega
    subst e
    congr 1
    refine desc_uniq p1.2 p2.2 fun z => ?_
    constructor
    · intro hz
      rcases List.mem_cons.1 ((h z).1 (List.mem_cons_of_mem _ hz)) with e | e
      · subst e; have := p1.1 _ hz; omega
      · exact e
    · intro hz
      rcases List.mem_cons.1 ((h z).2 (List.mem_cons_of_mem _ hz)) with e | e
      · subst e; have := p2.1 _ hz; omega
      · exact e
theorem range_boxes (l : List BoxM) : (List.range l.length).map (boxAt l) = l := by
  apply List.ext_getElem?
  intro j
  by_cases hj : j < l.length
  · simp [boxAt, List.getD_eq_getElem?_getD, hj]
  · rw [List.getElem?_eq_none (by simpa using hj), List.getElem?_eq_none (by omega)]
theorem xs_perm (l : List BoxM) : ((shelfXs l).map Prod.fst).Perm l := by
  have h := (ordM_perm (keyM (l.map BoxM.d)) l.length).map (boxAt l)
  rw [range_boxes] at h
  have e : (shelfXs l).map Prod.fst = (ordM (keyM (l.map BoxM.d)) l.length).map (boxAt l) := by rw [shelfXs, List.map_map]; rfl
  rw [e]; exact h
theorem shelves_er {p : PalletM} {l1 l2 : List BoxM} (hp : l1.Perm l2) (hd : l1.Pairwise fun x y => x.d ≠ y.d) : (shelvesM p l1).map er = (shelvesM p l2).map er := by
  have hok : boxesOkM p l1 = boxesOkM p l2 := by simp only [boxesOkM, hp.all_eq]
  cases h : boxesOkM p l1 with
  | false => rw [shelf_no h, shelf_no (hok ▸ h)]
  | true =>
    rw [shelvesM, if_pos h, shelvesM, if_pos (hok ▸ h)]
    refine fold_er rfl ?_
    have strict : ∀ {l : List BoxM}, l.Pairwise (fun x y => x.d ≠ y.d) → ((shelfXs l).map Prod.fst).Pairwise fun x y => y.d < x.d := fun {l} hl => by
      have h1 : ((shelfXs l).map Prod.fst).Pairwise fun x y => y.d ≤ x.d := by rw [List.pairwise_map]; exact xs_desc l
      have h2 : ((shelfXs l).map Prod.fst).Pairwise fun x y => x.d ≠ y.d := ((xs_perm l).pairwise_iff (fun h => Ne.symm h)).2 hl
      exact List.Pairwise.imp₂ (fun a b h3 h4 => by omega) h1 h2
    have hd2 : l2.Pairwise fun x y => x.d ≠ y.d := (hp.pairwise_iff (fun h => Ne.symm h)).1 hd
    refine desc_uniq (strict hd) (strict hd2) fun x => ?_
    rw [(xs_perm l1).mem_iff, (xs_perm l2).mem_iff, hp.mem_iff]
/-- A list that begins elsewhere. -/
def turnM (l : List BoxM) (k i : Nat) : List BoxM := (List.range i).map fun j => boxAt l ((j + k) % l.length)
theorem turn_next {l : List BoxM} {k i : Nat} {b : BoxM} (h : l[(i + k) % l.length]? = some b) : turnM l k (i + 1) = turnM l k i ++ [b] := by
  simp [turnM, List.range_succ, boxAt_get h]
theorem turn_perm {l : List BoxM} {k : Nat} (hk : k < l.length) : (turnM l k l.length).Perm l := by
  have e : turnM l k l.length = l.drop k ++ l.take k := by
    apply List.ext_getElem?
    intro j
    by_cases hj : j < l.length
    · rw [turnM, List.getElem?_map, List.getElem?_range hj]
      simp only [Option.map_some]
      by_cases h2 : j < l.length - k
      · rw [List.getElem?_append_left (by rw [List.length_drop]; omega), List.getElem?_drop, Nat.mod_eq_of_lt (by omega)]
        have : k + j < l.length := by omega
        simp [boxAt, List.getD_eq_getElem?_getD, this, Nat.add_comm]
      · rw [List.getElem?_append_right (by rw [List.length_drop]; omega), List.length_drop, List.getElem?_take_of_lt (by omega)]
        have e2 : (j + k) % l.length = j - (l.length - k) := by
          rw [Nat.mod_eq_sub_mod (by omega), Nat.mod_eq_of_lt (by omega)]; omega
        have : j - (l.length - k) < l.length := by omega
        simp [boxAt, List.getD_eq_getElem?_getD, e2, this]
    · rw [List.getElem?_eq_none (by simpa [turnM] using hj), List.getElem?_eq_none (by simp; omega)]
  rw [e]
  have := List.perm_append_comm (l₁ := l.drop k) (l₂ := l.take k)
  rwa [List.take_append_drop] at this
theorem er_at {m1 m2 : List ShelfM} (h : m1.map er = m2.map er) {i : Nat} {s t : ShelfM} (hs : m1[i]? = some s) (ht : m2[i]? = some t) : s.w = t.w ∧ s.d = t.d ∧ s.h = t.h ∧ s.g = t.g := by
  have := congrArg (fun l => l[i]?) h
  simp only [List.getElem?_map, hs, ht, Option.map_some, Option.some.injEq, er, Prod.mk.injEq] at this
  exact this
theorem er_d {m1 m2 : List ShelfM} (h : m1.map er = m2.map er) : (m1.map fun s => s.d) = m2.map fun s => s.d := by
  have := congrArg (fun l => l.map fun x => x.2.1) h
  simpa [er, Function.comp_def] using this
theorem pair_ne {l : List BoxM} (h : ∀ (i j : Nat) (a b : BoxM), j < i → l[i]? = some a → l[j]? = some b → a.d ≠ b.d) : l.Pairwise fun x y => x.d ≠ y.d := by
  rw [List.pairwise_iff_getElem]
  intro i j hi hj hij
  exact Ne.symm (h j i _ _ hij (List.getElem?_eq_getElem hj) (List.getElem?_eq_getElem hi))
theorem byte_of {z : Int} (h : (Lit.int .u8 z).wf = true) : 0 ≤ z ∧ z ≤ 255 := by
  simp [Lit.wf, IntKind.min, IntKind.max, IntKind.signed, IntKind.bits] at h
  omega
end Go.Proofs.Yticgeijklhlonaa
