/-
  Texts of this proof, one behind the other: PackLaw, LowLaw, CartLaw, CostW, PlanW, ApartLaw, ApartLaw2, NeedLaw.
-/
import Derived.Test.YtglpgohilfoecaaGreatPkpE
set_option linter.unusedVariables false
set_option linter.unusedSimpArgs false

/-
  The cartons of both ways are a packing.
-/
namespace Go.Proofs.YtglpgohilfoecaaGreat
theorem last_perm (p : List Int → Bool) (x : Int) (l : List (List Int)) : (lastM p l x).flatten.Perm (l.flatten ++ [x]) := by
  rw [lastM]
  cases hl : l.getLast? with
  | none => simp only [List.flatten_append, List.flatten_cons, List.flatten_nil, List.append_nil]; exact List.Perm.refl _
  | some g =>
    obtain ⟨ys, rfl⟩ := List.getLast?_eq_some_iff.1 hl
    by_cases hp : p g = true
    · simp only [hp, if_true]
      have e : (ys ++ [g]).set ((ys ++ [g]).length - 1) (g ++ [x]) = ys ++ [g ++ [x]] := by simp
      rw [e]; simp
    · simp only [hp]; simp
theorem lastAll_perm (p : List Int → Int → Bool) (l : List Int) : (lastAll p l).flatten.Perm l := by
  have : ∀ (l : List Int) (out : List (List Int)), (l.foldl (fun out x => lastM (fun g => p g x) out x) out).flatten.Perm (out.flatten ++ l) := by
    intro l
    induction l with
    | nil => intro out; simp
    | cons x r ih =>
      intro out
      rw [List.foldl_cons]
      refine (ih _).trans ?_; refine ((last_perm _ x out).append_right r).trans ?_
      simp
  have h := this l []
  rw [lastAll]; simpa using h
theorem put_perm (p : List Int → Bool) (x : Int) : ∀ l : List (List Int), (putM p l x).flatten.Perm (l.flatten ++ [x])
  | [] => by simp [putM]
  | g :: r => by
    have ih := put_perm p x r
    rw [putM]
    split
    · simp only [List.flatten_cons, List.append_assoc]
      exact List.Perm.append_left g (List.perm_append_comm)
    · simp only [List.flatten_cons, List.append_assoc]
      exact List.Perm.append_left g ih
theorem putAll_perm (p : List Int → Int → Bool) (l : List Int) : (putAll p l).flatten.Perm l := by
  have : ∀ (l : List Int) (out : List (List Int)), (l.foldl (fun out x => putM (fun g => p g x) out x) out).flatten.Perm (out.flatten ++ l) := by
    intro l
    induction l with
    | nil => intro out; simp
    | cons x r ih =>
      intro out
      rw [List.foldl_cons]
      refine (ih _).trans ?_; refine ((put_perm _ x out).append_right r).trans ?_
      simp
  have h := this l []
  rw [putAll]; simpa using h
theorem ordU_perm (r : ReqM) (t : List Int) : (ordU r t).Perm t := by
  have h := (dV (keyM (t.map (vOf r))) t.length).map (fun i => t.getD i 0)
  refine h.trans (List.Perm.of_eq ?_); refine List.ext_getElem (by simp) (fun i h1 h2 => ?_)
  simp only [List.getElem_map, List.getElem_range]
  rw [List.getD_eq_getElem?_getD, List.getElem?_eq_getElem h2]; rfl
theorem last_all {Q : List Int → Prop} {p : List Int → Bool} {x : Int} {l : List (List Int)} (h1 : Q [x]) (h2 : ∀ g, p g = true → Q (g ++ [x])) (hl : ∀ g ∈ l, Q g) : ∀ g ∈ lastM p l x, Q g := by
  intro g hg
  rw [lastM] at hg
  cases h : l.getLast? with
  | none =>
    rw [h] at hg
    rcases List.mem_append.1 hg with hg | hg
    · exact hl g hg
    · rw [List.mem_singleton.1 hg]; exact h1
  | some b =>
    rw [h] at hg
    dsimp only at hg
    split at hg
    · rename_i hp
      rcases List.mem_or_eq_of_mem_set hg with hg | rfl
      · exact hl g hg
      · exact h2 b hp
    · rcases List.mem_append.1 hg with hg | hg
      · exact hl g hg
      · rw [List.mem_singleton.1 hg]; exact h1
theorem put_all {Q : List Int → Prop} {p : List Int → Bool} {x : Int} (h1 : Q [x]) (h2 : ∀ g, p g = true → Q (g ++ [x])) : ∀ {l : List (List Int)}, (∀ g ∈ l, Q g) → ∀ g ∈ putM p l x, Q g
  | [], _, g, hg => by rw [putM, List.mem_singleton] at hg; rw [hg]; exact h1
  | b :: r, hl, g, hg => by
    rw [putM] at hg
    split at hg
    · rename_i hp
      rcases List.mem_cons.1 hg with rfl | hg
      · exact h2 b hp
      · exact hl g (List.mem_cons_of_mem _ hg)
    · rcases List.mem_cons.1 hg with rfl | hg
      · exact hl g List.mem_cons_self
      · exact put_all h1 h2 (fun c hc => hl c (List.mem_cons_of_mem _ hc)) g hg
theorem fold_all {Q : List Int → Prop} {f : List (List Int) → Int → List (List Int)} : ∀ {l : List Int} {out : List (List Int)}, (∀ x ∈ l, ∀ o : List (List Int), (∀ g ∈ o, Q g) → ∀ g ∈ f o x, Q g) → (∀ g ∈ out, Q g) → ∀ g ∈ l.foldl f out, Q g
  | [], _, _, ho => ho
  | x :: r, out, hs, ho => by
    rw [List.foldl_cons]
    exact fold_all (fun y hy => hs y (List.mem_cons_of_mem _ hy)) (hs x List.mem_cons_self out ho)
theorem itemAt_mem {r : ReqM} {u : Int} {x : ItemM} (h : itemAt r u = some x) : x ∈ r.items := by
  rw [itemAt] at h
  split at h
  · obtain ⟨i, _, h2⟩ := Option.bind_eq_some_iff.1 h; exact List.mem_of_getElem? h2
  · cases h
theorem cls_fits {r : ReqM} (h : classM r = 0) : ∀ x ∈ r.items, fitsM x (mst r) = true := by
  intro x hx
  cases hb : r.items.any (fun x => !fitsM x (typeAt r r.master).1) with
  | false => have := List.any_eq_false.1 hb x hx; rw [mst]; simpa using this
  | true =>
    exfalso
    rw [classM] at h
    split at h
    · omega
    · split at h
      · omega
      · split at h
        · omega
        · first | omega | (rw [if_pos hb] at h; omega)
theorem perm_prod {xs ys : List Int} (h : xs.Perm ys) : xs.foldr (· * ·) 1 = ys.foldr (· * ·) 1 := by
  induction h with
  | nil => rfl
  | cons x _ ih => simp only [List.foldr_cons, ih]
  | swap x y l => simp only [List.foldr_cons]; exact Int.mul_left_comm _ _ _
  | trans _ _ ih1 ih2 => rw [ih1, ih2]
theorem prod3_le {a b c a' b' c' : Int} (ha : 1 ≤ a ∧ a ≤ a') (hb : 1 ≤ b ∧ b ≤ b') (hc : 1 ≤ c ∧ c ≤ c') : a * (b * (c * 1)) ≤ a' * (b' * (c' * 1)) := by
  rw [Int.mul_one, Int.mul_one]
  have h1 : b * c ≤ b' * c' := Int.mul_le_mul hb.2 hc.2 (by omega) (by omega)
  have h2 : 0 ≤ b * c := Int.mul_nonneg (by omega) (by omega)
  exact Int.mul_le_mul ha.2 h1 h2 (by omega)
theorem volM_val {w h d : Int} (hw : 1 ≤ w ∧ w ≤ 2000) (hh : 1 ≤ h ∧ h ≤ 2000) (hd : 1 ≤ d ∧ d ≤ 2000) : volM w h d = w * (h * (d * 1)) := by
  have e : (inB w 0 2000 && inB h 0 2000 && inB d 0 2000) = true := by simp only [inB, Bool.and_eq_true, decide_eq_true_eq]; omega
  have a1 : 1 ≤ w * h := by have := Int.mul_le_mul hw.1 hh.1 (by omega) (by omega); omega
  have a2 : w * h ≤ 4000000 := by have := Int.mul_le_mul hw.2 hh.2 (by omega) (by omega); omega
  have a3 : 1 ≤ w * h * d := by have := Int.mul_le_mul a1 hd.1 (by omega) (by omega); omega
  have a4 : w * h * d ≤ 8000000000 := by have := Int.mul_le_mul a2 hd.2 (by omega) (by omega); omega
  have e1 : IntKind.i64.wrap (w * h) = w * h := cN (by omega) (by omega)
  have e2 : IntKind.i64.wrap (w * h * d) = w * h * d := cN (by omega) (by omega)
  rw [volM, if_pos e, e1, e2, Int.mul_one, Int.mul_assoc]
theorem fits_vol {x : ItemM} {t : TypeM} (h : fitsM x t = true) (hx : itemOkM x = true) (ht : typeOkM t = true) : vI x ≤ volM t.w t.h t.d ∧ x.g ≤ t.g := by
  simp only [itemOkM, typeOkM, inB, Bool.and_eq_true, decide_eq_true_eq] at hx ht
  obtain ⟨a0, a1, a2, ha⟩ := three (cB [x.w, x.h, x.d])
  obtain ⟨b0, b1, b2, hb⟩ := three (cB [t.w, t.h, t.d])
  simp only [fitsM, ha, hb, le3, Bool.and_eq_true, decide_eq_true_eq] at h
  have pa := perm_prod (co [x.w, x.h, x.d])
  have pb := perm_prod (co [t.w, t.h, t.d])
  rw [ha] at pa
  rw [hb] at pb
  have hm : ∀ y ∈ [a0, a1, a2], 1 ≤ y := fun y hy => by
    have := (co [x.w, x.h, x.d]).mem_iff.1 (ha ▸ hy)
    simp only [List.mem_cons, List.not_mem_nil, or_false] at this
    omega
  have q0 := hm a0 (by simp)
  have q1 := hm a1 (by simp)
  have q2 := hm a2 (by simp)
  refine ⟨?_, h.2⟩
  rw [vI, volM_val (by omega) (by omega) (by omega), volM_val (by omega) (by omega) (by omega)]
  simp only [List.foldr_cons, List.foldr_nil] at pa pb
  rw [← pa, ← pb]
  exact prod3_le ⟨q0, h.1.1.1⟩ ⟨q1, h.1.1.2⟩ ⟨q2, h.1.2⟩
/-- A unit alone is held by the master carton. -/
theorem one_holds {r : ReqM} {u : Int} (hc : classM r = 0) (hu : hereM r u = true) : holdsM r [u] = true := by
  obtain ⟨m, i, x, _, _, _, hx⟩ := item_in (r := r) (u := u) (by rw [List.length_map]; exact hu)
  have hf := fits_vol (cls_fits hc x (itemAt_mem hx)) (List.all_eq_true.1 (b9 (bR hc)) x (itemAt_mem hx)) (mst_ok hc)
  rw [holdsM]
  simp only [volUS, gramM, List.map_cons, List.map_nil, List.sum_cons, List.sum_nil, vOf, gOf, hx, Bool.and_eq_true, decide_eq_true_eq]
  omega
theorem okCs_of {r : ReqM} {cs : List (List Int)} (h : ∀ g ∈ cs, g.length ≠ 0 ∧ holdsM r g = true) : okCs r cs = true := by
  rw [okCs, List.all_eq_true]
  intro g hg
  rw [Bool.and_eq_true, decide_eq_true_eq]
  exact h g hg
theorem next_pack {r : ReqM} (hc : classM r = 0) (us : List Int) : packM r us (nextM r us) = true := by
  have h1 : okCs r (nextM r us) = true := okCs_of (fold_all (Q := fun g => g.length ≠ 0 ∧ holdsM r g = true) (fun x hx o ho => last_all ⟨by simp, one_holds hc (List.mem_filter.1 hx).2⟩ (fun g hp => ⟨by simp, by rw [← room_yes hc]; exact hp⟩) ho) (fun g hg => absurd hg List.not_mem_nil))
  rw [packM_ok hc h1, decide_eq_true_eq, sortM_eq]
  exact lastAll_perm _ _
theorem first_pack {r : ReqM} (hc : classM r = 0) (us : List Int) : packM r us (firstM r us) = true := by
  have h1 : okCs r (firstM r us) = true := okCs_of (fold_all (Q := fun g => g.length ≠ 0 ∧ holdsM r g = true) (fun x hx o ho => put_all ⟨by simp, one_holds hc (List.mem_filter.1 ((ordU_perm r (thereM r us)).mem_iff.1 hx)).2⟩ (fun g hp => ⟨by simp, by rw [← room_yes hc]; exact hp⟩) ho) (fun g hg => absurd hg List.not_mem_nil))
  rw [packM_ok hc h1, decide_eq_true_eq, sortM_eq]
  exact (putAll_perm _ _).trans (ordU_perm r _)
theorem perm_sumL {xs ys : List Int} (h : xs.Perm ys) : xs.sum = ys.sum := by
  induction h with
  | nil => rfl
  | cons x _ ih => simp only [List.sum_cons, ih]
  | swap x y l => simp only [List.sum_cons]; omega
  | trans _ _ ih1 ih2 => rw [ih1, ih2]
theorem sum_ge0 {f : Int → Int} (hf : ∀ u, 0 ≤ f u) : ∀ g : List Int, 0 ≤ (g.map f).sum
  | [] => by simp
  | x :: r => by have := sum_ge0 hf r; have := hf x; rw [List.map_cons, List.sum_cons]; omega
theorem way_pack {r : ReqM} (hc : classM r = 0) (us : List Int) : packM r us (wayM r us) = true := by
  rw [wayM]; split
  · exact next_pack hc us
  · exact first_pack hc us
theorem pack_parts {r : ReqM} {us : List Int} {cs : List (List Int)} (h : packM r us cs = true) : (∀ c ∈ cs, c ≠ [] ∧ holdsM r c = true) ∧ cs.flatten.Perm (thereM r us) := by
  rw [packM] at h
  simp only [Bool.and_eq_true, decide_eq_true_eq] at h
  obtain ⟨_, ho, hs⟩ := h
  rw [okCs, List.all_eq_true] at ho
  refine ⟨fun c hcm => ?_, sortM_eq.1 hs⟩
  have := ho c hcm
  rw [Bool.and_eq_true, decide_eq_true_eq] at this
  exact ⟨fun e => this.1 (by rw [e]; rfl), this.2⟩
theorem withinT_perm {r : ReqM} {a b : List Int} (h : a.Perm b) (t : TypeM) : withinT r a t = withinT r b t := by
  rw [withinT, withinT, volUS, volUS, gramM, gramM, perm_sumL (h.map (vOf r)), perm_sumL (h.map (gOf r))]
theorem all_permB {f : Int → Bool} {a b : List Int} (h : a.Perm b) : a.all f = b.all f := by
  rw [Bool.eq_iff_iff, List.all_eq_true, List.all_eq_true]
  exact ⟨fun k x hx => k x (h.mem_iff.2 hx), fun k x hx => k x (h.mem_iff.1 hx)⟩
theorem hold_permT {r : ReqM} {a b : List Int} (h : a.Perm b) (t : TypeM) : holdM r a t = holdM r b t := by
  rw [holdM, holdM, all_permB h, withinT_perm h]
theorem cheap_perm {r : ReqM} {a b : List Int} (h : a.Perm b) : cheapM r a = cheapM r b := by
  rw [cheapM, cheapM]
  have : cheapStep r a = cheapStep r b := by funext x t; rw [cheapStep, cheapStep, hold_permT h]
  rw [this]
theorem cheap_inv {r : ReqM} {c : List Int} : ∀ (ts : List TypeM) (a : TypeM × Bool), (a.2 = true → a.1 ∈ r.types ∧ holdM r c a.1 = true) → (∀ t ∈ ts, t ∈ r.types) →
    ((ts.foldl (cheapStep r c) a).2 = true → (ts.foldl (cheapStep r c) a).1 ∈ r.types ∧ holdM r c (ts.foldl (cheapStep r c) a).1 = true) ∧ (a.2 = true → (ts.foldl (cheapStep r c) a).2 = true ∧ (ts.foldl (cheapStep r c) a).1.cost ≤ a.1.cost) ∧ (∀ t ∈ ts, holdM r c t = true → (ts.foldl (cheapStep r c) a).2 = true ∧ (ts.foldl (cheapStep r c) a).1.cost ≤ t.cost)
  | [], a, h, _ => ⟨h, fun k => ⟨k, Int.le_refl _⟩, fun t ht => absurd ht List.not_mem_nil⟩
  | t :: ts, a, h, hts => by
    rw [List.foldl_cons]
    by_cases hb : (holdM r c t && betterM a t) = true
    · have e : cheapStep r c a t = (t, true) := by rw [cheapStep, if_pos hb]
      rw [e]
      rw [Bool.and_eq_true] at hb
      obtain ⟨i1, i2, i3⟩ := cheap_inv (r := r) (c := c) ts (t, true) (fun _ => ⟨hts t List.mem_cons_self, hb.1⟩) (fun s hs => hts s (List.mem_cons_of_mem _ hs))
      obtain ⟨j1, j2⟩ := i2 rfl
      refine ⟨i1, fun ha => ⟨j1, ?_⟩, fun s hs hh => ?_⟩
      · have h2 := hb.2
        rw [betterM, ha] at h2
        simp only [Bool.not_true, Bool.false_or, Bool.or_eq_true, Bool.and_eq_true, decide_eq_true_eq] at h2
        dsimp only at j2
        omega
      · rcases List.mem_cons.1 hs with rfl | hs
        · exact ⟨j1, j2⟩
        · exact i3 s hs hh
    · have e : cheapStep r c a t = a := by rw [cheapStep, if_neg hb]
      rw [e]
      obtain ⟨i1, i2, i3⟩ := cheap_inv (r := r) (c := c) ts a h (fun s hs => hts s (List.mem_cons_of_mem _ hs))
      refine ⟨i1, i2, fun s hs hh => ?_⟩
      rcases List.mem_cons.1 hs with rfl | hs
      · rw [hh, Bool.true_and, betterM] at hb
        simp only [Bool.or_eq_true, Bool.not_eq_true', Bool.and_eq_true, decide_eq_true_eq, not_or] at hb
        have ha : a.2 = true := by
          cases h2 : a.2 with
          | true => rfl
          | false => exact absurd h2 hb.1.1
        obtain ⟨j1, j2⟩ := i2 ha
        exact ⟨j1, by omega⟩
      · exact i3 s hs hh
theorem cheap_is {r : ReqM} {c : List Int} {t : TypeM} (ht : t ∈ r.types) (h : holdM r c t = true) : (cheapM r c).2 = true ∧ (cheapM r c).1 ∈ r.types ∧ holdM r c (cheapM r c).1 = true ∧ (cheapM r c).1.cost ≤ t.cost := by
  obtain ⟨i1, _, i3⟩ := cheap_inv (r := r) (c := c) r.types (typeZ, false) (fun h => by cases h) (fun t ht => ht)
  obtain ⟨j1, j2⟩ := i3 t ht h
  obtain ⟨k1, k2⟩ := i1 j1
  exact ⟨j1, k1, k2, j2⟩
theorem names_of {r : ReqM} (h : classM r = 0) : namesM r = true := by
  have hb := bR h
  cases hn : namesM r with
  | true => rfl
  | false => rw [classM, if_neg (by simp [hb]), if_pos hn] at h; omega
theorem type_uniq {r : ReqM} (hc : classM r = 0) {t : TypeM} (ht : t ∈ r.types) : typeAt r t.id = (t, true) := by
  have hn := names_of hc
  simp only [namesM, Bool.and_eq_true, List.all_eq_true, List.mem_range] at hn
  obtain ⟨i, hi, rfl⟩ := List.getElem_of_mem ht
  have hd := hn.1.1.1 i hi
  rw [d7 (List.getElem?_eq_getElem hi)] at hd
  refine typeAt_yes (List.find?_eq_some_iff_append.2 ⟨by simp, r.types.take i, r.types.drop (i + 1), ?_, fun s hs => ?_⟩)
  · rw [← List.drop_eq_getElem_cons hi, List.take_append_drop]
  · cases he : decide (s.id = r.types[i].id) with
    | false => rfl
    | true =>
      exfalso
      have : (r.types.take i).any (fun q => decide (q.id = r.types[i].id)) = true := List.any_eq_true.2 ⟨s, hs, he⟩
      rw [this] at hd
      cases hd
theorem mst_is {r : ReqM} (hc : classM r = 0) : mst r ∈ r.types ∧ (mst r).id = r.master ∧ (typeAt r r.master).2 = true := by
  have hn := names_of hc
  simp only [namesM, Bool.and_eq_true] at hn
  have h2 := hn.2
  rw [mst]
  rw [typeAt] at h2 ⊢
  cases hf : typeByM r r.master with
  | none => rw [hf] at h2; cases h2
  | some t =>
    refine ⟨List.mem_of_find?_eq_some hf, ?_, rfl⟩
    have := List.find?_some hf
    simpa using this
theorem mst_holds {r : ReqM} (hc : classM r = 0) {l : List Int} (hh : ∀ u ∈ l, hereM r u = true) (hl : holdsM r l = true) : holdM r l (mst r) = true := by
  rw [holdM, within_mst, hl, decide_eq_true hc, Bool.true_and, Bool.and_true, List.all_eq_true]
  intro u hu
  have h1 := hh u hu
  rw [here_item] at h1
  rw [unitFits]
  cases hx : itemAt r u with
  | none => rw [hx] at h1; cases h1
  | some x => exact cls_fits hc x (itemAt_mem hx)
theorem cart_mem {r : ReqM} (hc : classM r = 0) {x : CartonM} (hx : x ∈ cartonsM r) : ∃ (k : Nat) (l : List Int), k < (groupsOfM r).length ∧ x = cartonM r k l ∧ l ∈ wayM r (unitsI r k) ∧ l ≠ [] ∧ holdsM r l = true ∧ (∀ u ∈ l, hereM r u = true) := by
  rw [cartonsM, List.mem_flatMap] at hx
  obtain ⟨k, hk, hx⟩ := hx
  rw [cartonsAt, List.mem_map] at hx
  obtain ⟨l, hl, rfl⟩ := hx
  obtain ⟨p1, p2⟩ := pack_parts (way_pack hc (unitsI r k))
  obtain ⟨q1, q2⟩ := p1 l hl
  refine ⟨k, l, List.mem_range.1 hk, rfl, hl, q1, q2, fun u hu => ?_⟩
  have : u ∈ thereM r (unitsI r k) := p2.mem_iff.1 (List.mem_flatten.2 ⟨l, hl, hu⟩)
  exact (List.mem_filter.1 this).2
/-- What is so of each carton. -/
theorem cart_ok {r : ReqM} (hc : classM r = 0) {x : CartonM} (hx : x ∈ cartonsM r) : x.l ≠ [] ∧ (cheapM r x.l).2 = true ∧ (cheapM r x.l).1.id = x.t ∧ typeAt r x.t = ((cheapM r x.l).1, true) ∧ (cheapM r x.l).1 ∈ r.types ∧ holdM r x.l (cheapM r x.l).1 = true ∧ grossM r x = (cheapM r x.l).1.tare + gramM r x.l ∧ grossM r x ≤ (cheapM r x.l).1.tare + (cheapM r x.l).1.g ∧ (cheapM r x.l).1.cost ≤ (mst r).cost := by
  obtain ⟨k, l, hk, rfl, hl, hne, hh, hu⟩ := cart_mem hc hx
  have hp : (sortM l).Perm l := co l
  have ec : cheapM r (sortM l) = cheapM r l := cheap_perm hp
  obtain ⟨c1, c2, c3, c4⟩ := cheap_is (mst_is hc).1 (mst_holds hc hu hh)
  have et := type_uniq hc c2
  have eg : grossM r (cartonM r k l) = (cheapM r l).1.tare + gramM r (sortM l) := by
    rw [grossM, cartonM, et]
    dsimp only
    rw [if_pos ⟨rfl, hc⟩]
  refine ⟨?_, ?_, ?_, ?_, ?_, ?_, ?_, ?_, ?_⟩
  · intro e
    have e2 : sortM l = [] := e
    exact hne (List.length_eq_zero_iff.1 (by rw [← cB l, e2]; rfl))
  · show (cheapM r (sortM l)).2 = true
    rw [ec]; exact c1
  · show (cheapM r (sortM l)).1.id = (cheapM r l).1.id
    rw [ec]
  · show typeAt r (cheapM r l).1.id = ((cheapM r (sortM l)).1, true)
    rw [ec]; exact et
  · show (cheapM r (sortM l)).1 ∈ r.types
    rw [ec]; exact c2
  · show holdM r (sortM l) (cheapM r (sortM l)).1 = true
    rw [ec, hold_permT hp]; exact c3
  · show grossM r (cartonM r k l) = (cheapM r (sortM l)).1.tare + gramM r (sortM l)
    rw [ec]; exact eg
  · show grossM r (cartonM r k l) ≤ (cheapM r (sortM l)).1.tare + (cheapM r (sortM l)).1.g
    rw [ec, eg, gramM, perm_sumL (hp.map (gOf r))]
    rw [holdM] at c3
    simp only [Bool.and_eq_true, withinT, decide_eq_true_eq] at c3
    have := c3.2.2.2
    rw [gramM] at this
    omega
  · show (cheapM r (sortM l)).1.cost ≤ (mst r).cost
    rw [ec]; exact c4
/-- All units of an order. -/
def allU (r : ReqM) : List Int := (List.range (unitsM r).length).map (fun n : Nat => (n : Int))
end Go.Proofs.YtglpgohilfoecaaGreat

/-
  What cartons cost; how often a number is in a list.
-/
namespace Go.Proofs.YtglpgohilfoecaaGreat
open Go.RowKit
def costAt (r : ReqM) (c : CartonM) : Int := (typeAt r c.t).1.cost
def costM (r : ReqM) (cs : List CartonM) : Int := if classM r = 0 then (cs.map (costAt r)).sum else 0
attribute [local irreducible] Go.wpList Go.Code.wp Go.Exit.then Go.Exit.inBlock Go.bodyPost Go.Calls pE pB G RunsV FnV Fn FnM
set_option maxRecDepth 100000
set_option maxHeartbeats 4000000
section
variable {r : ReqM} {pv tv iv lv : Value} {cs : List (CartonM × Value)} (w : World) (h : Rd w pv 2 (r.pairs.map PairM.cells)) (h2 : Rd w tv 7 (r.types.map TypeM.cells)) (h3 : Rd w iv 7 (r.items.map ItemM.cells)) (h4 : Rd w lv 3 (cs.map CartonM.cells)) (hl : cs.length ≤ 1048576)
include h h2 h3 h4 hl
end
def timesL (l : List Int) (x : Int) : Nat := l.countP fun y => decide (y = x)
end Go.Proofs.YtglpgohilfoecaaGreat

/-
  The plan of an order: both ways.
-/
namespace Go.Proofs.YtglpgohilfoecaaGreat
open Go.RowKit
/-- A place, some pallets on. -/
def movedM (a : Int) (s : SpotM) : SpotM := ⟨IntKind.i64.wrap (s.p + a), s.x, s.y, s.z⟩
/-- The boxes of a group's cartons. -/
def boxesAt (r : ReqM) (cs : List CartonM) (k : Nat) : List BoxM := (cs.filter fun c => decide (c.g = (k : Int))).map (boxOfM r)
def planStep (r : ReqM) (st : List SpotM × Int) (k : Nat) : List SpotM × Int :=
  (st.1 ++ (spotsM r.pal (boxesAt r (cartonsM r) k)).map (movedM st.2), IntKind.i64.wrap (st.2 + palletsM (spotsM r.pal (boxesAt r (cartonsM r) k))))
def spotsAt (r : ReqM) (n : Nat) : List SpotM × Int := (List.range n).foldl (planStep r) ([], 0)
/-- The places of an order's plan. -/
def planSpotsM (r : ReqM) : List SpotM := (spotsAt r (groupsOfM r).length).1
attribute [local irreducible] Go.wpList Go.Code.wp Go.Exit.then Go.Exit.inBlock Go.bodyPost Go.Calls pE pB G RunsV FnV Fn FnM
set_option maxRecDepth 100000
set_option maxHeartbeats 4000000
section
variable {r : ReqM} {pv tv iv : Value} (w : World) (h : Rd w pv 2 (r.pairs.map PairM.cells)) (h2 : Rd w tv 7 (r.types.map TypeM.cells)) (h3 : Rd w iv 7 (r.items.map ItemM.cells))
include h h2 h3
end
end Go.Proofs.YtglpgohilfoecaaGreat

/-
  No two boxes are in one place, and none is outside. No program is in sight here.
-/
namespace Go.Proofs.YtglpgohilfoecaaGreat
open Go.RowKit
def Sep (a : BoxM) (s : SpotM) (b : BoxM) (t : SpotM) : Prop := s.p ≠ t.p ∨ s.x + a.w ≤ t.x ∨ t.x + b.w ≤ s.x ∨ s.y + a.d ≤ t.y ∨ t.y + b.d ≤ s.y ∨ s.z + a.h ≤ t.z ∨ t.z + b.h ≤ s.z
theorem Sep.symm {a b : BoxM} {s t : SpotM} (h : Sep a s b t) : Sep b t a s := by unfold Sep at *; omega
def Inn (p : PalletM) (a : BoxM) (s : SpotM) : Prop := 0 ≤ s.p ∧ 0 ≤ s.x ∧ s.x + a.w ≤ p.w ∧ 0 ≤ s.y ∧ s.y + a.d ≤ p.d ∧ 0 ≤ s.z ∧ s.z + a.h ≤ p.h
structure Inv (p : PalletM) (l : List BoxM) (out : List SpotM) (dn : List (Int × Int)) (F : BoxM → SpotM → Prop) : Prop where
  len : out.length = l.length
  at_ : ∀ e ∈ dn, ∃ (j : Nat) (s : SpotM), e.1 = (j : Int) ∧ j < l.length ∧ out[j]? = some s ∧ s.p = e.2 ∧ Inn p (boxAt l j) s ∧ F (boxAt l j) s
  ap : ∀ e ∈ dn, ∀ e' ∈ dn, e.1 ≠ e'.1 → ∀ s t, out[e.1.toNat]? = some s → out[e'.1.toNat]? = some t → Sep (boxAt l e.1.toNat) s (boxAt l e'.1.toNat) t
section
variable {p : PalletM} {l : List BoxM} {out : List SpotM} {dn : List (Int × Int)} {F F' : BoxM → SpotM → Prop}
theorem Inv.weak (h : Inv p l out dn F) (hw : ∀ a s, F a s → F' a s) : Inv p l out dn F' :=
  ⟨h.len, fun e he => by obtain ⟨j, s, h1, h2, h3, h4, h5, h6⟩ := h.at_ e he; exact ⟨j, s, h1, h2, h3, h4, h5, hw _ _ h6⟩, h.ap⟩
theorem Inv.place {j : Nat} {s : SpotM} (h : Inv p l out dn F) (hj : j < l.length) (hnew : ∀ e ∈ dn, e.1 ≠ (j : Int)) (hin : Inn p (boxAt l j) s) (hF : F' (boxAt l j) s) (hw : ∀ a t, F a t → F' a t) (hsep : ∀ a t, F a t → Sep a t (boxAt l j) s) :
    Inv p l (out.set j s) (dn ++ [((j : Int), s.p)]) F' := by
  have hjo : j < out.length := by rw [h.len]; exact hj
  have hself : (out.set j s)[j]? = some s := by rw [List.getElem?_set_self hjo]
  have hoth : ∀ i : Nat, i ≠ j → (out.set j s)[i]? = out[i]? := fun i hi => List.getElem?_set_ne (Ne.symm hi)
  have old : ∀ e ∈ dn, ∃ (i : Nat) (u : SpotM), e.1 = (i : Int) ∧ i < l.length ∧ i ≠ j ∧ out[i]? = some u ∧ u.p = e.2 ∧ Inn p (boxAt l i) u ∧ F (boxAt l i) u := fun e he => by
    obtain ⟨i, u, h1, h2, h3, h4, h5, h6⟩ := h.at_ e he
    exact ⟨i, u, h1, h2, fun hij => hnew e he (by rw [h1, hij]), h3, h4, h5, h6⟩
  refine ⟨by rw [List.length_set]; exact h.len, fun e he => ?_, fun e he e' he' hne a b ha hb => ?_⟩
  · rcases List.mem_append.1 he with he | he
    · obtain ⟨i, u, h1, h2, h3, h4, h5, h6, h7⟩ := old e he
      exact ⟨i, u, h1, h2, by rw [hoth i h3]; exact h4, h5, h6, hw _ _ h7⟩
    · rw [List.mem_singleton.1 he]; exact ⟨j, s, rfl, hj, hself, rfl, hin, hF⟩
  · rcases List.mem_append.1 he with he | he
    · obtain ⟨i, u, h1, h2, h3, h4, h5, h6, h7⟩ := old e he
      have e1 : e.1.toNat = i := by rw [h1]; rfl
      rw [e1, hoth i h3] at ha
      rcases List.mem_append.1 he' with he' | he'
      · obtain ⟨i', u', g1, g2, g3, g4, g5, g6, g7⟩ := old e' he'
        have e2 : e'.1.toNat = i' := by rw [g1]; rfl
        rw [e2, hoth i' g3] at hb
        exact h.ap e he e' he' hne a b (by rw [e1]; exact ha) (by rw [e2]; exact hb)
      · rw [List.mem_singleton.1 he'] at hb ⊢
        simp only [Int.toNat_natCast] at hb ⊢
        rw [hself] at hb; cases hb
        rw [h4] at ha; cases ha
        rw [e1]; exact hsep _ _ h7
    · rw [List.mem_singleton.1 he] at ha hne ⊢
      simp only [Int.toNat_natCast] at ha ⊢
      rw [hself] at ha; cases ha
      rcases List.mem_append.1 he' with he' | he'
      · obtain ⟨i', u', g1, g2, g3, g4, g5, g6, g7⟩ := old e' he'
        have e2 : e'.1.toNat = i' := by rw [g1]; rfl
        rw [e2, hoth i' g3] at hb
        rw [g4] at hb; cases hb
        rw [e2]; exact (hsep _ _ g7).symm
      · rw [List.mem_singleton.1 he'] at hne; exact absurd rfl hne
end
def F0 (o : Int) (_ : BoxM) (s : SpotM) : Prop := s.p < o
def F1 (o z : Int) (a : BoxM) (s : SpotM) : Prop := s.p < o ∨ (s.p = o ∧ s.z + a.h ≤ z)
def F2 (o z y H : Int) (a : BoxM) (s : SpotM) : Prop := s.p < o ∨ (s.p = o ∧ (s.z + a.h ≤ z ∨ (s.z = z ∧ a.h ≤ H ∧ s.y + a.d ≤ y)))
def F3 (o z y x H D : Int) (a : BoxM) (s : SpotM) : Prop := s.p < o ∨ (s.p = o ∧ (s.z + a.h ≤ z ∨ (s.z = z ∧ a.h ≤ H ∧ (s.y + a.d ≤ y ∨ (s.y = y ∧ a.d ≤ D ∧ s.x + a.w ≤ x)))))
section
variable {p : PalletM} {l : List BoxM} {ss : List ShelfM} {ls : List LayerM}
def BB (ss : List ShelfM) (k : Int) : List Int := (shAt ss k).l
def CC (ss : List ShelfM) (ls : List LayerM) (i : Int) : List Int := (lyAt ls i).l.flatMap (BB ss)
structure LyOk (p : PalletM) (l : List BoxM) (ss : List ShelfM) (t : LayerM) : Prop where
  at_ : ∀ k ∈ t.l, ShOk p l (shAt ss k) ∧ (shAt ss k).h ≤ t.h ∧ 1 ≤ (shAt ss k).d
  ds : (t.l.map fun k => (shAt ss k).d).sum = t.d
  gs : (t.l.map fun k => (shAt ss k).g).sum = t.g
  db : t.d ≤ p.d
  h1 : 1 ≤ t.h
structure LdOk (p : PalletM) (l : List BoxM) (ss : List ShelfM) (ls : List LayerM) (t : LoadM) : Prop where
  at_ : ∀ k ∈ t.l, LyOk p l ss (lyAt ls k)
  hs : (t.l.map fun k => (lyAt ls k).h).sum = t.h
  gs : (t.l.map fun k => (lyAt ls k).g).sum = t.g
  hb : t.h ≤ p.h
def TT (ss : List ShelfM) (ls : List LayerM) (xs : List (LoadM × Nat)) : List (Int × Int) := xs.flatMap fun x => (x.1.l.flatMap (CC ss ls)).map fun b => (b, (x.2 : Int))
end
section
variable {p : PalletM} {l : List BoxM}
def TM (p : PalletM) (l : List BoxM) : List (Int × Int) := TT (shelvesM p l) (layersM p (shelvesM p l)) (loadsM p (layersM p (shelvesM p l))).zipIdx
/-! ### Weights -/
def spAt (out : List SpotM) (j : Nat) : SpotM := out.getD j ⟨0, 0, 0, 0⟩
def gsumM (l : List BoxM) (out : List SpotM) (i k : Nat) : Int := ((List.range i).map fun j => if (spAt out j).p = (k : Int) then (boxAt l j).g else 0).sum
def wk (l : List BoxM) (k : Nat) (e : Int × Int) : Int := if e.2 = (k : Int) then gAt l e.1 else 0
end
end Go.Proofs.YtglpgohilfoecaaGreat

/-
  How many pallets a plan has, and what lies on each.
-/
namespace Go.Proofs.YtglpgohilfoecaaGreat
theorem item_gN {r : ReqM} {u : Int} (h : hereM r u = true) : 1 ≤ gOf r u := by
  rw [here_item] at h
  rw [gOf]
  cases hx : itemAt r u with
  | none => rw [hx] at h; cases h
  | some x =>
    have := itemAt_ok hx
    simp only [itemOkM, inB, Bool.and_eq_true, decide_eq_true_eq] at this
    dsimp only; omega
theorem gram_pos {r : ReqM} : ∀ {l : List Int}, l ≠ [] → (∀ u ∈ l, hereM r u = true) → 1 ≤ gramM r l
  | [], h, _ => absurd rfl h
  | u :: l, _, h => by
    have h1 := item_gN (h u List.mem_cons_self)
    have h2 := sum_ge0 (f := gOf r) (fun u => (gOf_in r u).1) l
    rw [gramM, List.map_cons, List.sum_cons]; omega
theorem pal_of {r : ReqM} (hc : classM r = 0) : palletOkM r.pal = true := by
  have h := bR hc
  simp only [boundsOkM, Bool.and_eq_true] at h
  obtain ⟨⟨⟨⟨⟨⟨⟨⟨⟨⟨_, hp⟩, _⟩, _⟩, _⟩, _⟩, _⟩, _⟩, _⟩, _⟩, _⟩ := h
  exact hp
theorem big_no {r : ReqM} (hc : classM r = 0) {t : TypeM} (ht : t ∈ r.types) : tooBig r.pal t = false := by
  cases hb : (r.types.any (tooBig r.pal)) with
  | false => have := List.any_eq_false.1 hb t ht; simpa using this
  | true =>
    exfalso
    rw [classM] at hc
    split at hc
    · omega
    · split at hc
      · omega
      · split at hc
        · omega
        · split at hc
          · omega
          · first | omega | (rw [if_pos hb] at hc; omega)
/-- Each carton's box may be placed. -/
theorem cart_box {r : ReqM} (hc : classM r = 0) {x : CartonM} (hx : x ∈ cartonsM r) : boxOkM r.pal (boxOfM r x) = true ∧ (boxOfM r x).g = grossM r x := by
  obtain ⟨f1, f2, f3, f4, f5, f6, f7, f8, f9⟩ := cart_ok hc hx
  have ht := dj (bR hc) _ f5
  have hb := big_no hc f5
  have e : boxOfM r x = ⟨(cheapM r x.l).1.w, (cheapM r x.l).1.d, (cheapM r x.l).1.h, grossM r x⟩ := by
    rw [boxOfM, f4]; dsimp only; rw [if_pos ⟨rfl, hc⟩]
  have hg : 1 ≤ gramM r x.l := by
    obtain ⟨k, l, _, rfl, _, hne, _, hu⟩ := cart_mem hc hx
    have hp : (sortM l).Perm l := co l
    show 1 ≤ gramM r (sortM l)
    rw [gramM, perm_sumL (hp.map (gOf r))]
    exact gram_pos hne hu
  rw [e]
  refine ⟨?_, rfl⟩
  simp only [typeOkM, inB, Bool.and_eq_true, decide_eq_true_eq] at ht
  simp only [tooBig, Bool.or_eq_false_iff, decide_eq_false_iff_not] at hb
  simp only [boxOkM, inB, Bool.and_eq_true, decide_eq_true_eq]
  omega
/-- The pallets of one group. -/
structure SegOk (p : PalletM) (l : List BoxM) : Prop where
  len : (spotsM p l).length = l.length
  p0 : ∀ s ∈ spotsM p l, 0 ≤ s.p ∧ s.p < palletsM (spotsM p l) ∧ s.p ≤ 999999
  n0 : 0 ≤ palletsM (spotsM p l)
  nb : palletsM (spotsM p l) ≤ l.length
  gs : ∀ q : Nat, gsumM l (spotsM p l) l.length q ≤ p.g
/-- The sum over those places that are on a pallet. -/
def onSum (f : CartonM → Int) (Z : List (CartonM × SpotM)) (q : Int) : Int := (Z.map fun x => if x.2.p = q then f x.1 else 0).sum
/-- The cartons and places of the first groups. -/
structure PlanOkS (r : ReqM) (n : Nat) (Z : List (CartonM × SpotM)) : Prop where
  fst : Z.map Prod.fst = (List.range n).flatMap (cartonsAt r)
  snd : Z.map Prod.snd = (spotsAt r n).1
  base : (spotsAt r n).2 = palletsM (spotsAt r n).1
  b0 : 0 ≤ (spotsAt r n).2
  bl : (spotsAt r n).2 ≤ Z.length
  ge : (n : Int) ≤ (spotsAt r n).2
  rng : ∀ x ∈ Z, 0 ≤ x.2.p ∧ x.2.p < (spotsAt r n).2
  grp : ∀ x ∈ Z, ∀ y ∈ Z, x.2.p = y.2.p → x.1.g = y.1.g
  gl : ∀ x ∈ Z, x.1.g < (n : Int)
  gs : ∀ q, onSum (grossM r) Z q ≤ r.pal.g
/-- A group's cartons with their places. -/
def segZ (r : ReqM) (k : Nat) : List (CartonM × SpotM) := (cartonsAt r k).zip ((spotsM r.pal (boxesAt r (cartonsM r) k)).map (movedM (spotsAt r k).2))
/-- What is so of an order's plan. -/
structure NeedOk (r : ReqM) (n : Nat) : Prop where
  pal : palletsM (planSpotsM r) = (n : Int)
  ge : (groupsOfM r).length ≤ n
  le : n ≤ (cartonsM r).length
  len : (planSpotsM r).length = (cartonsM r).length
  gs : ∀ q, 0 ≤ palletGramM r (cartonsM r) (planSpotsM r) q ∧ palletGramM r (cartonsM r) (planSpotsM r) q ≤ r.pal.g
  sum : ((List.range n).map fun q : Nat => palletGramM r (cartonsM r) (planSpotsM r) (q : Int)).sum = ((cartonsM r).map (grossM r)).sum
  same : ∀ (q a b : Int), a ∈ onPalletM (cartonsM r).length (planSpotsM r) q → b ∈ onPalletM (cartonsM r).length (planSpotsM r) q → ∃ (i j : Nat) (x y : CartonM), a = (i : Int) ∧ b = (j : Int) ∧ (cartonsM r)[i]? = some x ∧ (cartonsM r)[j]? = some y ∧ x.g = y.g
end Go.Proofs.YtglpgohilfoecaaGreat
