/-
  The things that are units, and what they weigh.
-/
import Derived.Test.YtpmphkcibiimcaaGreatUnits
namespace Go.Proofs.YtpmphkcibiimcaaGreat
open Go.RowKit
attribute [local irreducible] Go.wpList Go.Code.wp Go.Exit.then Go.Exit.inBlock Go.bodyPost Go.Calls pE pB G RunsV FnV Fn FnM
set_option maxRecDepth 100000
set_option maxHeartbeats 4000000
def itemAt (r : ReqM) (u : Int) : Option ItemM := if 0 ≤ u then ((unitsM r)[u.toNat]?).bind (fun i => r.items[i]?) else none
def itemZ : ItemM := ⟨0, 0, 0, 0, 0, 0, 0⟩
def itemsM (r : ReqM) (us : List Int) : List ItemM := us.filterMap (itemAt r)
def gOf (r : ReqM) (u : Int) : Int := match itemAt r u with | some x => x.g | none => 0
def gramM (r : ReqM) (us : List Int) : Int := (us.map (gOf r)).sum
theorem item_in {r : ReqM} {u : Int} (h : inB u 0 ((((unitsM r).map ncell).length : Int) - 1) = true) : ∃ (m i : Nat) (x : ItemM), u = m ∧ ((unitsM r).map ncell)[m]? = some (ncell i) ∧ (r.items.map ItemM.cells)[i]? = some x.cells ∧ itemAt r u = some x := by
  simp only [inB, Bool.and_eq_true, decide_eq_true_eq, List.length_map] at h
  obtain ⟨m, rfl⟩ : ∃ m : Nat, u = m := ⟨u.toNat, by omega⟩
  obtain ⟨i, hi⟩ := get_of_lt (l := unitsM r) (k := m) (by omega)
  obtain ⟨x, hx⟩ := get_of_lt (unitsM_lt i (List.mem_of_getElem? hi))
  refine ⟨m, i, x, rfl, get_map hi ncell, get_map hx ItemM.cells, ?_⟩
  rw [itemAt, if_pos (by omega), Int.toNat_natCast, hi]
  exact hx
theorem item_out {r : ReqM} {u : Int} (h : ¬ inB u 0 ((((unitsM r).map ncell).length : Int) - 1) = true) : itemAt r u = none := by
  rw [itemAt]
  split
  · have : ¬ u.toNat < (unitsM r).length := fun hl => h (by simp only [inB, Bool.and_eq_true, decide_eq_true_eq, List.length_map]; omega)
    rw [List.getElem?_eq_none (by omega)]; rfl
  · rfl
theorem items_yes {r : ReqM} {us : List Int} {k : Nat} {u : Int} {x : ItemM} (hb : us[k]? = some u) (h : itemAt r u = some x) : (itemsM r (us.take k)).map ItemM.cells ++ [x.cells] = (itemsM r (us.take (k + 1))).map ItemM.cells := by
  simp [itemsM, List.take_add_one, hb, List.filterMap_append, h]
theorem items_no {r : ReqM} {us : List Int} {k : Nat} {u : Int} (hb : us[k]? = some u) (h : itemAt r u = none) : (itemsM r (us.take k)).map ItemM.cells = (itemsM r (us.take (k + 1))).map ItemM.cells := by
  simp [itemsM, List.take_add_one, hb, List.filterMap_append, h]
theorem items_len (r : ReqM) (us : List Int) : (itemsM r us).length ≤ us.length := List.length_filterMap_le _ _
theorem item_g {x : ItemM} (h : itemOkM x = true) : 1 ≤ x.g ∧ x.g ≤ 100000 := by
  simp only [itemOkM, Bool.and_eq_true, inB, decide_eq_true_eq] at h
  exact h.1.1.2
theorem itemAt_ok {r : ReqM} {u : Int} {x : ItemM} (h : itemAt r u = some x) : itemOkM x = true := by
  by_cases hc : classM r = 0
  · rw [itemAt] at h
    split at h
    · cases hu : (unitsM r)[u.toNat]? with
      | none => rw [hu] at h; cases h
      | some i => rw [hu] at h; exact List.all_eq_true.1 (bounds_items (cls_sound hc)) x (List.mem_of_getElem? h)
    · cases h
  · rw [itemAt, unitsM_no hc] at h; simp at h
theorem gOf_in (r : ReqM) (u : Int) : 0 ≤ gOf r u ∧ gOf r u ≤ 100000 := by
  unfold gOf
  cases h : itemAt r u with
  | none => simp
  | some x => have := item_g (itemAt_ok h); dsimp only; omega
theorem gram_take {r : ReqM} {us : List Int} {k : Nat} {u : Int} (hb : us[k]? = some u) : gramM r (us.take (k + 1)) = gramM r (us.take k) + gOf r u := by
  simp [gramM, List.take_add_one, hb, List.sum_append]
theorem gram_in (r : ReqM) : ∀ us : List Int, 0 ≤ gramM r us ∧ gramM r us ≤ 100000 * us.length
  | [] => by simp [gramM]
  | u :: us => by
    have h1 := gram_in r us
    have h2 := gOf_in r u
    simp only [gramM, List.map_cons, List.sum_cons, List.length_cons] at *
    omega
def gSum (l : List ItemM) : Int := (l.map ItemM.g).sum
theorem gSum_take {l : List ItemM} {k : Nat} {b : ItemM} (h : l[k]? = some b) : gSum (l.take (k + 1)) = gSum (l.take k) + b.g := by
  simp [gSum, List.take_add_one, h, List.sum_append]
theorem gSum_items (r : ReqM) : ∀ us : List Int, gSum (itemsM r us) = gramM r us
  | [] => rfl
  | u :: us => by
    have h1 := gSum_items r us
    simp only [itemsM, gramM, gSum, List.filterMap_cons, List.map_cons, List.sum_cons] at *
    cases h : itemAt r u with
    | none => simp only [gOf, h]; omega
    | some x => simp only [gOf, h, List.map_cons, List.sum_cons]; omega
theorem gSum_in : ∀ {l : List ItemM}, (∀ x ∈ l, itemOkM x = true) → 0 ≤ gSum l ∧ gSum l ≤ 100000 * l.length
  | [], _ => by simp [gSum]
  | x :: l, h => by
    have h1 := gSum_in (fun y hy => h y (List.mem_cons_of_mem _ hy))
    have h2 := item_g (h x (List.mem_cons_self))
    simp only [gSum, List.map_cons, List.sum_cons, List.length_cons] at *
    omega
theorem items_ok {r : ReqM} {us : List Int} : ∀ x ∈ itemsM r us, itemOkM x = true := by
  intro x hx
  obtain ⟨u, _, hu⟩ := List.mem_filterMap.1 hx
  exact itemAt_ok hu
theorem itemsOf_any {r : ReqM} {pv tv iv uv : Value} {us : List Int} (w : World) (h : Rd w pv 2 (r.pairs.map PairM.cells)) (h2 : Rd w tv 7 (r.types.map TypeM.cells)) (h3 : Rd w iv 7 (r.items.map ItemM.cells)) (h4 : Rd w uv 1 (us.map icell)) (hul : us.length ≤ 1048576) :
    Fn Tryz.prog 91 [.agg (r.cells pv tv iv).toArray, uv] w (fun v : Value => v.oneCell' = true) (fun v => v) (fun v => [.row v 89 7 ((itemsM r us).map ItemM.cells)]) := by
  have hle3 := h3.le_map
  have hul2 : (us.map icell).length = us.length := by simp
  have hun := unitsM_len r
  have hun2 : ((unitsM r).map ncell).length = (unitsM r).length := by simp
  refine Fn.of (n := 36) Tryz.func91 rfl rfl ?_
  refine G.seq ?_
  refine G.region ?_
  refine G.op (og_box rfl rfl) rfl (fun bk2 _ => ?_)
  refine G.v (rv_assign rfl) rfl ?_
  refine G.done ?_
  refine G.thenN ?_
  refine G.seq ?_
  refine G.region ?_
  (first | refine G.v (rv_loadW 0 rfl rfl rfl) rfl ?_ | refine G.v (rv_loadW 1 rfl rfl rfl) rfl ?_ | refine G.v (rv_loadW 2 rfl rfl rfl) rfl ?_ | refine G.v (rv_loadW 3 rfl rfl rfl) rfl ?_ | refine G.v (rv_loadW 4 rfl rfl rfl) rfl ?_ | refine G.v (rv_loadW 5 rfl rfl rfl) rfl ?_ | refine G.v (rv_loadP 0 rfl rfl (.one (.one (.one (.one (.one (.one (.one (.one (.one (.one .nil))))))))))) rfl ?_ | refine G.v (rv_loadP 1 rfl rfl (.one (.one (.one (.one (.one (.one (.one (.one (.one (.one .nil))))))))))) rfl ?_ | refine G.v (rv_loadP 2 rfl rfl (.one (.one (.one (.one (.one (.one (.one (.one (.one (.one .nil))))))))))) rfl ?_ | refine G.v (rv_loadP 3 rfl rfl (.one (.one (.one (.one (.one (.one (.one (.one (.one (.one .nil))))))))))) rfl ?_ | refine G.v (rv_loadP 4 rfl rfl (.one (.one (.one (.one (.one (.one (.one (.one (.one (.one .nil))))))))))) rfl ?_ | refine G.v (rv_loadP 5 rfl rfl (.one (.one (.one (.one (.one (.one (.one (.one (.one (.one .nil))))))))))) rfl ?_)
  (refine G.op (og_callF1 rfl rfl (fun w hh => units_any (r := r) w (Rd.stays h _ hh) (Rd.stays h2 _ hh) (Rd.stays h3 _ hh))) rfl ?_; rintro vu hvu; try dsimp only)
  refine G.v (rv_assign rfl) rfl ?_
  refine G.done ?_
  refine G.thenN ?_
  refine G.seq ?_
  refine G.region ?_
  refine G.op (og_lit rfl .nil rfl rfl rfl rfl rfl rfl) rfl (fun vl _ => ?_)
  refine G.v (rv_assign rfl) rfl ?_
  refine G.done ?_
  refine G.thenN ?_
  refine G.seq ?_
  refine G.seq ?_
  refine G.region ?_
  refine G.v (rv_move rfl) rfl ?_
  refine G.v (rv_len rfl (by first | exact Rd.stays (by assumption) | exact Rd.owned 0 rfl | exact Rd.owned 1 rfl | exact Rd.owned 2 rfl | exact Rd.owned 3 rfl | exact Rd.owned 4 rfl | exact Rd.owned 5 rfl)) rfl ?_
  refine G.v (rv_move rfl) rfl ?_
  refine G.done ?_
  refine G.thenN ?_
  refine G.block ?_
  -- loop 0: turned [6, 14], kept [2, 5, 12, 13]
  refine G.loopK (ι := Nat × Value) (ks := [2, 5, 12, 13]) (fun x => [(6, x.2), (14, .int .i64 (x.1 : Int))]) (fun x => [.row x.2 89 7 ((itemsM r (us.take x.1)).map ItemM.cells)]) (fun x => x.1 ≤ us.length) (fun x => us.length - x.1) (0, vl) (.cons rfl (.cons rfl (.cons rfl (.cons rfl (.nil))))) rfl ?_ ?_ ?_
  · exact Nat.zero_le _
  · exact ⟨rfl, rfl, trivial⟩
  rintro ⟨k, v⟩ hk
  dsimp only at hk ⊢
  have hil := items_len r (us.take k)
  have hil2 : ((itemsM r (us.take k)).map ItemM.cells).length = (itemsM r (us.take k)).length := by simp
  rw [List.length_take] at hil
  by_cases hlt : k < us.length
  case' pos => (obtain ⟨u, hb⟩ := get_of_lt hlt; have e1 := get_map hb icell)
  all_goals
   refine G.seq ?_
   refine G.region ?_
   refine G.v (rv_lss rfl rfl) rfl ?_
   refine G.done ?_
   refine G.thenN ?_
   refine G.seq ?_
   refine G.cond rfl (fun hc => ?_) (fun hc => ?_)
   · try exact Bool.noConfusion hc
     all_goals
      try replace hc := of_decide_eq_true hc
      try (exfalso; first | contradiction | omega)
      all_goals
       refine G.skip ?_
       refine G.thenN ?_
       refine G.seq ?_
       refine G.block ?_
       refine G.seq ?_
       refine G.region ?_
       (first | refine G.v (rv_indexH rfl rfl (by first | exact Rd.stays (by assumption) | exact Rd.owned 0 rfl | exact Rd.owned 1 rfl | exact Rd.owned 2 rfl | exact Rd.owned 3 rfl | exact Rd.owned 4 rfl | exact Rd.owned 5 rfl) rfl (by first | exact e1 | exact e2 | exact e3)) rfl ?_ | refine G.v (rv_index rfl rfl (by first | exact Rd.stays (by assumption) | exact Rd.owned 0 rfl | exact Rd.owned 1 rfl | exact Rd.owned 2 rfl | exact Rd.owned 3 rfl | exact Rd.owned 4 rfl | exact Rd.owned 5 rfl) rfl (by assumption)) rfl ?_)
       refine G.v (rv_loadE rfl (by first | exact Rd.stays (by assumption) | exact Rd.owned 0 rfl | exact Rd.owned 1 rfl | exact Rd.owned 2 rfl | exact Rd.owned 3 rfl | exact Rd.owned 4 rfl | exact Rd.owned 5 rfl) (by first | exact e1 | exact e2 | exact e3) rfl) rfl ?_
       refine G.v (rv_assign rfl) rfl ?_
       refine G.done ?_
       refine G.thenN ?_
       refine G.seq ?_
       refine G.region ?_
       refine G.v (rv_move rfl) rfl ?_
       refine G.v (rv_move rfl) rfl ?_
       refine G.v (rv_len rfl (by first | exact Rd.stays (by assumption) | exact Rd.owned 0 rfl | exact Rd.owned 1 rfl | exact Rd.owned 2 rfl | exact Rd.owned 3 rfl | exact Rd.owned 4 rfl | exact Rd.owned 5 rfl)) rfl ?_
       (first | refine G.v (rv_decr rfl rfl (by omega) (by omega)) rfl ?_ | refine G.v (rv_subB rfl rfl (by omega) (by omega)) rfl ?_)
       refine G.op (og_callV rfl rfl (fun w _ => in_any _ _ _ w)) rfl (fun _ _ => ?_)
       refine G.done ?_
       refine G.thenN ?_
       refine G.cond rfl (fun hc => ?_) (fun hc => ?_)
       · try exact Bool.noConfusion hc
         all_goals
          try replace hc := of_decide_eq_true hc
          try (exfalso; first | contradiction | omega)
          all_goals
           obtain ⟨m, i, x, rfl, e2, e3, hit⟩ := item_in hc
           all_goals
            first | refine G.frontR0 v rfl ?_ | refine G.frontR1 v rfl ?_ | refine G.frontR2 v rfl ?_ | refine G.frontR3 v rfl ?_ | refine G.frontR4 v rfl ?_ | refine G.frontR5 v rfl ?_ | refine G.frontR6 v rfl ?_ | refine G.frontR7 v rfl ?_ | refine G.frontR8 v rfl ?_ | refine G.frontR9 v rfl ?_ | refine G.frontR10 v rfl ?_ | refine G.frontR11 v rfl ?_ | refine G.frontR12 v rfl ?_ | refine G.frontR13 v rfl ?_
            refine G.drawD1 [11] rfl ?_
            refine GE.q2 0 rfl (by as_aux_lemma => kernel_rfl) rfl (qg_runs (rv_move rfl)) (fun _ h => by first | exact h.drop 1 | exact h.drop 2 | exact h.drop 3 | exact h.drop 4 | exact h.drop 5) rfl ?_
            (first | refine GE.q2 1 rfl (by as_aux_lemma => kernel_rfl) rfl (qg_runs (rv_field rfl)) (fun _ h => by first | exact h.drop 1 | exact h.drop 2 | exact h.drop 3 | exact h.drop 4 | exact h.drop 5) rfl ?_ | refine GE.q2 1 rfl (by as_aux_lemma => kernel_rfl) rfl (qg_runs (rv_fieldE rfl)) (fun _ h => by first | exact h.drop 1 | exact h.drop 2 | exact h.drop 3 | exact h.drop 4 | exact h.drop 5) rfl ?_)
            (first | refine GE.q2 2 rfl (by as_aux_lemma => kernel_rfl) rfl (qg_runs (rv_load1 0 rfl rfl rfl)) (fun _ h => by first | exact h.drop 1 | exact h.drop 2 | exact h.drop 3 | exact h.drop 4 | exact h.drop 5) rfl ?_ | refine GE.q2 2 rfl (by as_aux_lemma => kernel_rfl) rfl (qg_runs (rv_load1 1 rfl rfl rfl)) (fun _ h => by first | exact h.drop 1 | exact h.drop 2 | exact h.drop 3 | exact h.drop 4 | exact h.drop 5) rfl ?_ | refine GE.q2 2 rfl (by as_aux_lemma => kernel_rfl) rfl (qg_runs (rv_load1 2 rfl rfl rfl)) (fun _ h => by first | exact h.drop 1 | exact h.drop 2 | exact h.drop 3 | exact h.drop 4 | exact h.drop 5) rfl ?_ | refine GE.q2 2 rfl (by as_aux_lemma => kernel_rfl) rfl (qg_runs (rv_load1 3 rfl rfl rfl)) (fun _ h => by first | exact h.drop 1 | exact h.drop 2 | exact h.drop 3 | exact h.drop 4 | exact h.drop 5) rfl ?_ | refine GE.q2 2 rfl (by as_aux_lemma => kernel_rfl) rfl (qg_runs (rv_load1 4 rfl rfl rfl)) (fun _ h => by first | exact h.drop 1 | exact h.drop 2 | exact h.drop 3 | exact h.drop 4 | exact h.drop 5) rfl ?_ | refine GE.q2 2 rfl (by as_aux_lemma => kernel_rfl) rfl (qg_runs (rv_load1 5 rfl rfl rfl)) (fun _ h => by first | exact h.drop 1 | exact h.drop 2 | exact h.drop 3 | exact h.drop 4 | exact h.drop 5) rfl ?_)
            refine GE.q2 3 rfl (by as_aux_lemma => kernel_rfl) rfl (qg_runs (rv_move rfl)) (fun _ h => by first | exact h.drop 1 | exact h.drop 2 | exact h.drop 3 | exact h.drop 4 | exact h.drop 5) rfl ?_
            refine GE.ol 4 (by as_aux_lemma => kernel_rfl) rfl rfl (og_runs (rv_move rfl)) rfl (fun _ _ h => by first | exact h.drop 1 | exact h.drop 2 | exact h.drop 3 | exact h.drop 4 | exact h.drop 5) (fun _ _ => ?_)
            (first | refine GE.ol 5 (by as_aux_lemma => kernel_rfl) rfl rfl (og_runs (rv_indexH rfl rfl (by first | exact Rd.stays (by assumption) | exact Rd.owned 0 rfl | exact Rd.owned 1 rfl | exact Rd.owned 2 rfl | exact Rd.owned 3 rfl | exact Rd.owned 4 rfl | exact Rd.owned 5 rfl) rfl (by first | exact e1 | exact e2 | exact e3))) rfl (fun _ _ h => by first | exact h.drop 1 | exact h.drop 2 | exact h.drop 3 | exact h.drop 4 | exact h.drop 5) (fun _ _ => ?_) | refine GE.ol 5 (by as_aux_lemma => kernel_rfl) rfl rfl (og_runs (rv_index rfl rfl (by first | exact Rd.stays (by assumption) | exact Rd.owned 0 rfl | exact Rd.owned 1 rfl | exact Rd.owned 2 rfl | exact Rd.owned 3 rfl | exact Rd.owned 4 rfl | exact Rd.owned 5 rfl) rfl (by assumption))) rfl (fun _ _ h => by first | exact h.drop 1 | exact h.drop 2 | exact h.drop 3 | exact h.drop 4 | exact h.drop 5) (fun _ _ => ?_))
            refine GE.ol 6 (by as_aux_lemma => kernel_rfl) rfl rfl (og_runs (rv_loadE rfl (by first | exact Rd.stays (by assumption) | exact Rd.owned 0 rfl | exact Rd.owned 1 rfl | exact Rd.owned 2 rfl | exact Rd.owned 3 rfl | exact Rd.owned 4 rfl | exact Rd.owned 5 rfl) (by first | exact e1 | exact e2 | exact e3) rfl)) rfl (fun _ _ h => by first | exact h.drop 1 | exact h.drop 2 | exact h.drop 3 | exact h.drop 4 | exact h.drop 5) (fun _ _ => ?_)
            (first | refine GE.ol 7 (by as_aux_lemma => kernel_rfl) rfl rfl (og_runs (rv_indexH rfl rfl (by first | exact Rd.stays (by assumption) | exact Rd.owned 0 rfl | exact Rd.owned 1 rfl | exact Rd.owned 2 rfl | exact Rd.owned 3 rfl | exact Rd.owned 4 rfl | exact Rd.owned 5 rfl) rfl (by first | exact e1 | exact e2 | exact e3))) rfl (fun _ _ h => by first | exact h.drop 1 | exact h.drop 2 | exact h.drop 3 | exact h.drop 4 | exact h.drop 5) (fun _ _ => ?_) | refine GE.ol 7 (by as_aux_lemma => kernel_rfl) rfl rfl (og_runs (rv_index rfl rfl (by first | exact Rd.stays (by assumption) | exact Rd.owned 0 rfl | exact Rd.owned 1 rfl | exact Rd.owned 2 rfl | exact Rd.owned 3 rfl | exact Rd.owned 4 rfl | exact Rd.owned 5 rfl) rfl (by assumption))) rfl (fun _ _ h => by first | exact h.drop 1 | exact h.drop 2 | exact h.drop 3 | exact h.drop 4 | exact h.drop 5) (fun _ _ => ?_))
            (first | refine GE.ol 8 (by as_aux_lemma => kernel_rfl) rfl rfl (og_runs (rv_loadEW rfl (by first | exact Rd.stays (by assumption) | exact Rd.owned 0 rfl | exact Rd.owned 1 rfl | exact Rd.owned 2 rfl | exact Rd.owned 3 rfl | exact Rd.owned 4 rfl | exact Rd.owned 5 rfl) (by first | exact e1 | exact e2 | exact e3) rfl)) rfl (fun _ _ h => by first | exact h.drop 1 | exact h.drop 2 | exact h.drop 3 | exact h.drop 4 | exact h.drop 5) (fun _ _ => ?_) | refine GE.ol 8 (by as_aux_lemma => kernel_rfl) rfl rfl (og_runs (rv_loadEP rfl (by first | exact Rd.stays (by assumption) | exact Rd.owned 0 rfl | exact Rd.owned 1 rfl | exact Rd.owned 2 rfl | exact Rd.owned 3 rfl | exact Rd.owned 4 rfl | exact Rd.owned 5 rfl) (by first | exact e1 | exact e2 | exact e3) (.one (.one (.one (.one (.one (.one (.one .nil))))))))) rfl (fun _ _ h => by first | exact h.drop 1 | exact h.drop 2 | exact h.drop 3 | exact h.drop 4 | exact h.drop 5) (fun _ _ => ?_))
            refine GE.ol 9 (by as_aux_lemma => kernel_rfl) rfl rfl (og_lit rfl (.cons rfl .nil) rfl rfl rfl rfl rfl rfl) rfl (fun _ _ h => by first | exact h.drop 1 | exact h.drop 2 | exact h.drop 3 | exact h.drop 4 | exact h.drop 5) (fun vx _ => ?_)
            (first | refine GE.ol 10 (by as_aux_lemma => kernel_rfl) rfl rfl (og_app0 rfl rfl rfl (by first | exact Rd.stays (by assumption) | exact Rd.owned 0 rfl | exact Rd.owned 1 rfl | exact Rd.owned 2 rfl | exact Rd.owned 3 rfl | exact Rd.owned 4 rfl | exact Rd.owned 5 rfl) rfl rfl (by simp; omega) (by simp; omega)) rfl (fun _ _ h => by first | exact h.drop 1 | exact h.drop 2 | exact h.drop 3 | exact h.drop 4 | exact h.drop 5) (fun va _ => ?_) | refine GE.ol 10 (by as_aux_lemma => kernel_rfl) rfl rfl (og_app1 rfl rfl rfl (by first | exact Rd.stays (by assumption) | exact Rd.owned 0 rfl | exact Rd.owned 1 rfl | exact Rd.owned 2 rfl | exact Rd.owned 3 rfl | exact Rd.owned 4 rfl | exact Rd.owned 5 rfl) rfl rfl (by simp; omega) (by simp; omega)) rfl (fun _ _ h => by first | exact h.drop 1 | exact h.drop 2 | exact h.drop 3 | exact h.drop 4 | exact h.drop 5) (fun va _ => ?_) | refine GE.ol 10 (by as_aux_lemma => kernel_rfl) rfl rfl (og_app2 rfl rfl rfl (by first | exact Rd.stays (by assumption) | exact Rd.owned 0 rfl | exact Rd.owned 1 rfl | exact Rd.owned 2 rfl | exact Rd.owned 3 rfl | exact Rd.owned 4 rfl | exact Rd.owned 5 rfl) rfl rfl (by simp; omega) (by simp; omega)) rfl (fun _ _ h => by first | exact h.drop 1 | exact h.drop 2 | exact h.drop 3 | exact h.drop 4 | exact h.drop 5) (fun va _ => ?_) | refine GE.ol 10 (by as_aux_lemma => kernel_rfl) rfl rfl (og_app3 rfl rfl rfl (by first | exact Rd.stays (by assumption) | exact Rd.owned 0 rfl | exact Rd.owned 1 rfl | exact Rd.owned 2 rfl | exact Rd.owned 3 rfl | exact Rd.owned 4 rfl | exact Rd.owned 5 rfl) rfl rfl (by simp; omega) (by simp; omega)) rfl (fun _ _ h => by first | exact h.drop 1 | exact h.drop 2 | exact h.drop 3 | exact h.drop 4 | exact h.drop 5) (fun va _ => ?_) | refine GE.ol 10 (by as_aux_lemma => kernel_rfl) rfl rfl (og_app4 rfl rfl rfl (by first | exact Rd.stays (by assumption) | exact Rd.owned 0 rfl | exact Rd.owned 1 rfl | exact Rd.owned 2 rfl | exact Rd.owned 3 rfl | exact Rd.owned 4 rfl | exact Rd.owned 5 rfl) rfl rfl (by simp; omega) (by simp; omega)) rfl (fun _ _ h => by first | exact h.drop 1 | exact h.drop 2 | exact h.drop 3 | exact h.drop 4 | exact h.drop 5) (fun va _ => ?_) | refine GE.ol 10 (by as_aux_lemma => kernel_rfl) rfl rfl (og_app5 rfl rfl rfl (by first | exact Rd.stays (by assumption) | exact Rd.owned 0 rfl | exact Rd.owned 1 rfl | exact Rd.owned 2 rfl | exact Rd.owned 3 rfl | exact Rd.owned 4 rfl | exact Rd.owned 5 rfl) rfl rfl (by simp; omega) (by simp; omega)) rfl (fun _ _ h => by first | exact h.drop 1 | exact h.drop 2 | exact h.drop 3 | exact h.drop 4 | exact h.drop 5) (fun va _ => ?_))
            refine GE.t 11 (by as_aux_lemma => kernel_rfl) rfl rfl rfl (og_runs (rv_assign rfl)) rfl (fun _ _ => ?_)
            refine GE.done (by as_aux_lemma => kernel_rfl) ?_
            refine G.inN ?_
            refine G.thenN ?_
            refine G.region ?_
            (first | refine G.v (rv_incr rfl rfl (by omega)) rfl ?_ | refine G.v (rv_addB rfl rfl (by omega) (by omega)) rfl ?_)
            refine G.v (rv_move rfl) rfl ?_
            refine G.done ?_
            first | refine G.backK (k + 1, va) 0 (by first | exact one_eq (congrArg (fun z => Ch.row va 89 7 z) (items_yes hb hit)) | exact one_eq (congrArg (fun z => Ch.row v 89 7 z) (items_no hb hno))) (.cons rfl (.cons rfl (.cons rfl (.cons rfl (.nil))))) (⟨rfl, rfl, trivial⟩) ?_ ?_ | refine G.backK (k + 1, va) 1 (by first | exact one_eq (congrArg (fun z => Ch.row va 89 7 z) (items_yes hb hit)) | exact one_eq (congrArg (fun z => Ch.row v 89 7 z) (items_no hb hno))) (.cons rfl (.cons rfl (.cons rfl (.cons rfl (.nil))))) (⟨rfl, rfl, trivial⟩) ?_ ?_ | refine G.backK (k + 1, va) 2 (by first | exact one_eq (congrArg (fun z => Ch.row va 89 7 z) (items_yes hb hit)) | exact one_eq (congrArg (fun z => Ch.row v 89 7 z) (items_no hb hno))) (.cons rfl (.cons rfl (.cons rfl (.cons rfl (.nil))))) (⟨rfl, rfl, trivial⟩) ?_ ?_ | refine G.backK (k + 1, va) 3 (by first | exact one_eq (congrArg (fun z => Ch.row va 89 7 z) (items_yes hb hit)) | exact one_eq (congrArg (fun z => Ch.row v 89 7 z) (items_no hb hno))) (.cons rfl (.cons rfl (.cons rfl (.cons rfl (.nil))))) (⟨rfl, rfl, trivial⟩) ?_ ?_ | refine G.backK (k + 1, v) 0 (by first | exact one_eq (congrArg (fun z => Ch.row va 89 7 z) (items_yes hb hit)) | exact one_eq (congrArg (fun z => Ch.row v 89 7 z) (items_no hb hno))) (.cons rfl (.cons rfl (.cons rfl (.cons rfl (.nil))))) (⟨rfl, rfl, trivial⟩) ?_ ?_ | refine G.backK (k + 1, v) 1 (by first | exact one_eq (congrArg (fun z => Ch.row va 89 7 z) (items_yes hb hit)) | exact one_eq (congrArg (fun z => Ch.row v 89 7 z) (items_no hb hno))) (.cons rfl (.cons rfl (.cons rfl (.cons rfl (.nil))))) (⟨rfl, rfl, trivial⟩) ?_ ?_ | refine G.backK (k + 1, v) 2 (by first | exact one_eq (congrArg (fun z => Ch.row va 89 7 z) (items_yes hb hit)) | exact one_eq (congrArg (fun z => Ch.row v 89 7 z) (items_no hb hno))) (.cons rfl (.cons rfl (.cons rfl (.cons rfl (.nil))))) (⟨rfl, rfl, trivial⟩) ?_ ?_ | refine G.backK (k + 1, v) 3 (by first | exact one_eq (congrArg (fun z => Ch.row va 89 7 z) (items_yes hb hit)) | exact one_eq (congrArg (fun z => Ch.row v 89 7 z) (items_no hb hno))) (.cons rfl (.cons rfl (.cons rfl (.cons rfl (.nil))))) (⟨rfl, rfl, trivial⟩) ?_ ?_
            · exact hlt
            · dsimp only; omega
       · try exact Bool.noConfusion hc
         all_goals
          try replace hc := of_decide_eq_false hc
          try (exfalso; first | contradiction | omega)
          all_goals
           have hno := item_out (by simpa using hc)
           all_goals
            refine G.skip ?_
            refine G.inN ?_
            refine G.thenN ?_
            refine G.region ?_
            (first | refine G.v (rv_incr rfl rfl (by omega)) rfl ?_ | refine G.v (rv_addB rfl rfl (by omega) (by omega)) rfl ?_)
            refine G.v (rv_move rfl) rfl ?_
            refine G.done ?_
            first | refine G.backK (k + 1, va) 0 (by first | exact one_eq (congrArg (fun z => Ch.row va 89 7 z) (items_yes hb hit)) | exact one_eq (congrArg (fun z => Ch.row v 89 7 z) (items_no hb hno))) (.cons rfl (.cons rfl (.cons rfl (.cons rfl (.nil))))) (⟨rfl, rfl, trivial⟩) ?_ ?_ | refine G.backK (k + 1, va) 1 (by first | exact one_eq (congrArg (fun z => Ch.row va 89 7 z) (items_yes hb hit)) | exact one_eq (congrArg (fun z => Ch.row v 89 7 z) (items_no hb hno))) (.cons rfl (.cons rfl (.cons rfl (.cons rfl (.nil))))) (⟨rfl, rfl, trivial⟩) ?_ ?_ | refine G.backK (k + 1, va) 2 (by first | exact one_eq (congrArg (fun z => Ch.row va 89 7 z) (items_yes hb hit)) | exact one_eq (congrArg (fun z => Ch.row v 89 7 z) (items_no hb hno))) (.cons rfl (.cons rfl (.cons rfl (.cons rfl (.nil))))) (⟨rfl, rfl, trivial⟩) ?_ ?_ | refine G.backK (k + 1, va) 3 (by first | exact one_eq (congrArg (fun z => Ch.row va 89 7 z) (items_yes hb hit)) | exact one_eq (congrArg (fun z => Ch.row v 89 7 z) (items_no hb hno))) (.cons rfl (.cons rfl (.cons rfl (.cons rfl (.nil))))) (⟨rfl, rfl, trivial⟩) ?_ ?_ | refine G.backK (k + 1, v) 0 (by first | exact one_eq (congrArg (fun z => Ch.row va 89 7 z) (items_yes hb hit)) | exact one_eq (congrArg (fun z => Ch.row v 89 7 z) (items_no hb hno))) (.cons rfl (.cons rfl (.cons rfl (.cons rfl (.nil))))) (⟨rfl, rfl, trivial⟩) ?_ ?_ | refine G.backK (k + 1, v) 1 (by first | exact one_eq (congrArg (fun z => Ch.row va 89 7 z) (items_yes hb hit)) | exact one_eq (congrArg (fun z => Ch.row v 89 7 z) (items_no hb hno))) (.cons rfl (.cons rfl (.cons rfl (.cons rfl (.nil))))) (⟨rfl, rfl, trivial⟩) ?_ ?_ | refine G.backK (k + 1, v) 2 (by first | exact one_eq (congrArg (fun z => Ch.row va 89 7 z) (items_yes hb hit)) | exact one_eq (congrArg (fun z => Ch.row v 89 7 z) (items_no hb hno))) (.cons rfl (.cons rfl (.cons rfl (.cons rfl (.nil))))) (⟨rfl, rfl, trivial⟩) ?_ ?_ | refine G.backK (k + 1, v) 3 (by first | exact one_eq (congrArg (fun z => Ch.row va 89 7 z) (items_yes hb hit)) | exact one_eq (congrArg (fun z => Ch.row v 89 7 z) (items_no hb hno))) (.cons rfl (.cons rfl (.cons rfl (.cons rfl (.nil))))) (⟨rfl, rfl, trivial⟩) ?_ ?_
            · exact hlt
            · dsimp only; omega
   · try exact Bool.noConfusion hc
     all_goals
      try replace hc := of_decide_eq_false hc
      try (exfalso; first | contradiction | omega)
      all_goals
       refine G.exit ?_
       refine G.thenX ?_
       refine G.thenX ?_
       refine G.inX ?_
       refine G.thenN ?_
       refine G.seq ?_
       refine G.region ?_
       refine G.v (rv_move rfl) rfl ?_
       refine G.v (rv_assign rfl) rfl ?_
       refine G.done ?_
       refine G.thenN ?_
       refine G.ret ?_
       refine G.know (fun w hw => (Rd.owned 0 rfl w hw).one_) (fun hone => G.retF v hone rfl rfl rfl (fun w hw => by rw [take_all (l := us) (by omega)] at hw; exact hw.sublist (by repeat (first | exact List.Sublist.refl _ | refine List.Sublist.cons_cons _ ?_ | refine List.Sublist.cons _ ?_))))
theorem gramOf_any {r : ReqM} {pv tv iv uv : Value} {us : List Int} (w : World) (h : Rd w pv 2 (r.pairs.map PairM.cells)) (h2 : Rd w tv 7 (r.types.map TypeM.cells)) (h3 : Rd w iv 7 (r.items.map ItemM.cells)) (h4 : Rd w uv 1 (us.map icell)) (hul : us.length ≤ 1048576) :
    FnV Tryz.prog 80 [.agg (r.cells pv tv iv).toArray, uv] w (.int .i64 (gramM r us)) := by
  have hil := items_len r us
  have hil2 : ((itemsM r us).map ItemM.cells).length = (itemsM r us).length := by simp
  refine FnV.of (n := 22) Tryz.func80 rfl rfl ?_
  refine G.seq ?_
  refine G.region ?_
  refine G.op (og_box rfl rfl) rfl (fun bk2 _ => ?_)
  refine G.v (rv_assign rfl) rfl ?_
  refine G.done ?_
  refine G.thenN ?_
  refine G.seq ?_
  refine G.region ?_
  refine G.v (rv_assign rfl) rfl ?_
  refine G.done ?_
  refine G.thenN ?_
  refine G.seq ?_
  refine G.seq ?_
  refine G.region ?_
  (first | refine G.v (rv_loadW 0 rfl rfl rfl) rfl ?_ | refine G.v (rv_loadW 1 rfl rfl rfl) rfl ?_ | refine G.v (rv_loadW 2 rfl rfl rfl) rfl ?_ | refine G.v (rv_loadP 0 rfl rfl (.one (.one (.one (.one (.one (.one (.one (.one (.one (.one .nil))))))))))) rfl ?_ | refine G.v (rv_loadP 1 rfl rfl (.one (.one (.one (.one (.one (.one (.one (.one (.one (.one .nil))))))))))) rfl ?_ | refine G.v (rv_loadP 2 rfl rfl (.one (.one (.one (.one (.one (.one (.one (.one (.one (.one .nil))))))))))) rfl ?_)
  refine G.v (rv_move rfl) rfl ?_
  (refine G.op (og_callF1 rfl rfl (fun w hh => itemsOf_any (r := r) (us := us) w (Rd.stays h _ hh) (Rd.stays h2 _ hh) (Rd.stays h3 _ hh) (Rd.stays h4 _ hh) hul)) rfl ?_; rintro vs hvs; try dsimp only)
  refine G.v (rv_len rfl (by first | exact Rd.stays (by assumption) | exact Rd.owned 0 rfl | exact Rd.owned 1 rfl | exact Rd.owned 2 rfl)) rfl ?_
  refine G.v (rv_move rfl) rfl ?_
  refine G.done ?_
  refine G.thenN ?_
  refine G.block ?_
  -- loop 0: turned [5, 12], kept [10, 11]
  refine G.loopK (ι := Nat) (ks := [10, 11]) (fun k => [(5, .int .i64 (gSum ((itemsM r us).take k))), (12, .int .i64 k)]) (fun _ => []) (fun k => k ≤ (itemsM r us).length) (fun k => (itemsM r us).length - k) 0 (.cons rfl (.cons rfl (.nil))) rfl ?_ ?_ ?_
  · exact Nat.zero_le _
  · exact ⟨rfl, rfl, trivial⟩
  rintro k hk
  have hgi := gSum_in (l := (itemsM r us).take k) (fun x hx => items_ok x (List.mem_of_mem_take hx))
  rw [List.length_take, Nat.min_eq_left hk] at hgi
  by_cases hlt : k < (itemsM r us).length
  case' pos => (obtain ⟨b, hb⟩ := get_of_lt hlt; have he := get_map hb ItemM.cells; have hbg := item_g (items_ok b (List.mem_of_getElem? hb)); have hgt := gSum_take hb)
  all_goals
   refine G.seq ?_
   refine G.region ?_
   refine G.v (rv_lss rfl rfl) rfl ?_
   refine G.done ?_
   refine G.thenN ?_
   refine G.seq ?_
   refine G.cond rfl (fun hc => ?_) (fun hc => ?_)
   · try exact Bool.noConfusion hc
     all_goals
      try replace hc := of_decide_eq_true hc
      try (exfalso; first | contradiction | omega)
      all_goals
       refine G.skip ?_
       refine G.thenN ?_
       refine G.seq ?_
       refine G.block ?_
       refine G.seq ?_
       refine G.region ?_
       (first | refine G.v (rv_indexH rfl rfl (by first | exact Rd.stays (by assumption) | exact Rd.owned 0 rfl | exact Rd.owned 1 rfl | exact Rd.owned 2 rfl) rfl (by assumption)) rfl ?_ | refine G.v (rv_index rfl rfl (by first | exact Rd.stays (by assumption) | exact Rd.owned 0 rfl | exact Rd.owned 1 rfl | exact Rd.owned 2 rfl) rfl (by assumption)) rfl ?_)
       (first | refine G.v (rv_loadEW rfl (by first | exact Rd.stays (by assumption) | exact Rd.owned 0 rfl | exact Rd.owned 1 rfl | exact Rd.owned 2 rfl) (by assumption) rfl) rfl ?_ | refine G.v (rv_loadEP rfl (by first | exact Rd.stays (by assumption) | exact Rd.owned 0 rfl | exact Rd.owned 1 rfl | exact Rd.owned 2 rfl) (by assumption) (.one (.one (.one (.one (.one (.one (.one .nil)))))))) rfl ?_)
       refine G.op (og_alloc) rfl (fun bk7 _ => ?_)
       (first | refine G.op0 (og_st0 rfl rfl rfl rfl rfl rfl (.zero (.cons (.cons (.cons (.cons (.cons (.cons (.cons .nil))))))))) (fun _ _ => ?_) | refine G.op0 (og_st1 rfl rfl rfl rfl rfl rfl (.zero (.cons (.cons (.cons (.cons (.cons (.cons (.cons .nil))))))))) (fun _ _ => ?_) | refine G.op0 (og_st2 rfl rfl rfl rfl rfl rfl (.zero (.cons (.cons (.cons (.cons (.cons (.cons (.cons .nil))))))))) (fun _ _ => ?_))
       refine G.done ?_
       refine G.thenN ?_
       refine G.region ?_
       refine G.v (rv_move rfl) rfl ?_
       (first | refine G.v (rv_field rfl) rfl ?_ | refine G.v (rv_fieldE rfl) rfl ?_)
       (first | refine G.v (rv_load1 0 rfl rfl rfl) rfl ?_ | refine G.v (rv_load1 1 rfl rfl rfl) rfl ?_ | refine G.v (rv_load1 2 rfl rfl rfl) rfl ?_)
       (first | refine G.v (rv_incr rfl rfl (by omega)) rfl ?_ | refine G.v (rv_addB rfl rfl (by omega) (by omega)) rfl ?_)
       refine G.v (rv_assign rfl) rfl ?_
       refine G.done ?_
       refine G.inN ?_
       refine G.thenN ?_
       refine G.region ?_
       (first | refine G.v (rv_incr rfl rfl (by omega)) rfl ?_ | refine G.v (rv_addB rfl rfl (by omega) (by omega)) rfl ?_)
       refine G.v (rv_move rfl) rfl ?_
       refine G.done ?_
       first | refine G.backK (k + 1) 0 rfl (.cons rfl (.cons rfl (.nil))) ?_ ?_ ?_ | refine G.backK (k + 1) 1 rfl (.cons rfl (.cons rfl (.nil))) ?_ ?_ ?_ | refine G.backK (k + 1) 2 rfl (.cons rfl (.cons rfl (.nil))) ?_ ?_ ?_
       · exact ⟨congrArg (fun z => some (Value.int .i64 z)) hgt.symm, rfl, trivial⟩
       · exact hlt
       · omega
   · try exact Bool.noConfusion hc
     all_goals
      try replace hc := of_decide_eq_false hc
      try (exfalso; first | contradiction | omega)
      all_goals
       refine G.exit ?_
       refine G.thenX ?_
       refine G.thenX ?_
       refine G.inX ?_
       refine G.thenN ?_
       refine G.seq ?_
       refine G.region ?_
       refine G.v (rv_move rfl) rfl ?_
       refine G.v (rv_assign rfl) rfl ?_
       refine G.done ?_
       refine G.thenN ?_
       refine G.ret ?_
       exact G.retFV rfl rfl (congrArg (Value.int .i64) (by rw [take_all (by omega)]; exact gSum_items r us))
def itemOr (r : ReqM) (u : Int) : ItemM := (itemAt r u).getD itemZ
theorem itemOr_g (r : ReqM) (u : Int) : (itemOr r u).g = gOf r u := by
  rw [itemOr, gOf]; cases itemAt r u <;> rfl
theorem l6Item_any {r : ReqM} {pv tv iv uv : Value} (u : Int) (w : World) (h3 : Rd w iv 7 (r.items.map ItemM.cells)) (h4 : Rd w uv 1 ((unitsM r).map ncell)) :
    FnV Tryz.prog 109 [.agg (r.cells pv tv iv).toArray, uv, .int .i64 u] w (.tuple #[(itemOr r u).val, .bool (itemAt r u).isSome]) := by
  have hun := unitsM_len r
  have hun2 : ((unitsM r).map ncell).length = (unitsM r).length := by simp
  refine FnV.of (n := 23) Tryz.func109 rfl rfl ?_
  refine G.seq ?_
  refine G.region ?_
  refine G.op (og_box rfl rfl) rfl (fun bk3 _ => ?_)
  refine G.op (og_alloc) rfl (fun bk6 _ => ?_)
  refine G.v (rv_assign rfl) rfl ?_
  refine G.done ?_
  refine G.thenN ?_
  refine G.seq ?_
  refine G.seq ?_
  refine G.region ?_
  refine G.v (rv_move rfl) rfl ?_
  refine G.v (rv_move rfl) rfl ?_
  refine G.v (rv_len rfl (by first | exact Rd.stays (by assumption) | exact Rd.owned 0 rfl | exact Rd.owned 1 rfl | exact Rd.owned 2 rfl)) rfl ?_
  (first | refine G.v (rv_decr rfl rfl (by omega) (by omega)) rfl ?_ | refine G.v (rv_subB rfl rfl (by omega) (by omega)) rfl ?_)
  refine G.op (og_callV rfl rfl (fun w _ => l1In_any _ _ _ w)) rfl (fun _ _ => ?_)
  refine G.v (rv_not rfl) rfl ?_
  refine G.done ?_
  refine G.thenN ?_
  refine G.cond rfl (fun hc => ?_) (fun hc => ?_)
  · try exact Bool.noConfusion hc
    all_goals
     try replace hc := of_decide_eq_true hc
     try (exfalso; first | contradiction | omega)
     all_goals
      have hno := item_out (r := r) (u := u) (by simpa using hc)
      all_goals
       refine G.seq ?_
       refine G.region ?_
       refine G.v (rv_build2 rfl .nil .nil) rfl ?_
       (first | refine G.op0 (og_st0 rfl rfl rfl rfl rfl rfl (.zero (.cons (.cons (.cons (.cons (.cons (.cons (.cons .nil))))))))) (fun _ _ => ?_) | refine G.op0 (og_st1 rfl rfl rfl rfl rfl rfl (.zero (.cons (.cons (.cons (.cons (.cons (.cons (.cons .nil))))))))) (fun _ _ => ?_) | refine G.op0 (og_st2 rfl rfl rfl rfl rfl rfl (.zero (.cons (.cons (.cons (.cons (.cons (.cons (.cons .nil))))))))) (fun _ _ => ?_))
       refine G.v (rv_assign rfl) rfl ?_
       refine G.done ?_
       refine G.thenN ?_
       refine G.ret ?_
       refine G.thenR ?_
       first | (rw [itemOr, hno]; exact G.retVL rfl (.cons (by first | exact .cell 0 rfl rfl rfl | exact .cell 1 rfl rfl rfl | exact .cell 2 rfl rfl rfl | exact .cell 3 rfl rfl rfl | exact .cell 4 rfl rfl rfl | exact .cell 5 rfl rfl rfl | exact .cell 6 rfl rfl rfl | exact .cell 7 rfl rfl rfl | exact .cell 8 rfl rfl rfl | exact .cell 9 rfl rfl rfl | exact .cell 10 rfl rfl rfl | exact .cell 11 rfl rfl rfl | exact .cell 12 rfl rfl rfl | exact .cell 13 rfl rfl rfl) (.cons (.tmp rfl) .nil)) rfl) | (rw [itemOr, hit]; exact G.retVL rfl (.cons (by first | exact .cell 0 rfl rfl rfl | exact .cell 1 rfl rfl rfl | exact .cell 2 rfl rfl rfl | exact .cell 3 rfl rfl rfl | exact .cell 4 rfl rfl rfl | exact .cell 5 rfl rfl rfl | exact .cell 6 rfl rfl rfl | exact .cell 7 rfl rfl rfl | exact .cell 8 rfl rfl rfl | exact .cell 9 rfl rfl rfl | exact .cell 10 rfl rfl rfl | exact .cell 11 rfl rfl rfl | exact .cell 12 rfl rfl rfl | exact .cell 13 rfl rfl rfl) (.cons (.tmp rfl) .nil)) rfl)
  · try exact Bool.noConfusion hc
    all_goals
     try replace hc := of_decide_eq_false hc
     try (exfalso; first | contradiction | omega)
     all_goals
      obtain ⟨m, i, x, rfl, e2, e3, hit⟩ := item_in (r := r) (u := u) (by simpa using hc)
      all_goals
       refine G.skip ?_
       refine G.thenN ?_
       refine G.seq ?_
       refine G.drawL [8, 9] ?_
       (first | refine GE.q 0 rfl (by as_aux_lemma => kernel_rfl) rfl (qg_runs (rv_field rfl)) rfl ?_ | refine GE.q 0 rfl (by as_aux_lemma => kernel_rfl) rfl (qg_runs (rv_fieldE rfl)) rfl ?_)
       (first | refine GE.q 1 rfl (by as_aux_lemma => kernel_rfl) rfl (qg_runs (rv_load1 0 rfl rfl rfl)) rfl ?_ | refine GE.q 1 rfl (by as_aux_lemma => kernel_rfl) rfl (qg_runs (rv_load1 1 rfl rfl rfl)) rfl ?_ | refine GE.q 1 rfl (by as_aux_lemma => kernel_rfl) rfl (qg_runs (rv_load1 2 rfl rfl rfl)) rfl ?_)
       refine GE.q 2 rfl (by as_aux_lemma => kernel_rfl) rfl (qg_runs (rv_move rfl)) rfl ?_
       refine GE.ol 3 (by as_aux_lemma => kernel_rfl) rfl rfl (og_runs (rv_move rfl)) rfl (fun _ _ h => by first | exact h | exact h.drop 1 | exact h.drop 2 | exact h.drop 3 | exact h.drop 4 | exact h.drop 5 | exact h.drop 6 | exact h.drop 7 | exact h.drop 8 | exact h.drop 9 | exact h.drop 10 | exact h.drop 11 | exact h.drop 12 | exact h.drop 13) (fun _ _ => ?_)
       (first | refine GE.ol 4 (by as_aux_lemma => kernel_rfl) rfl rfl (og_runs (rv_indexH rfl rfl (by first | exact Rd.stays (by assumption) | exact Rd.owned 0 rfl | exact Rd.owned 1 rfl | exact Rd.owned 2 rfl) rfl (by first | exact e2 | exact e3))) rfl (fun _ _ h => by first | exact h | exact h.drop 1 | exact h.drop 2 | exact h.drop 3 | exact h.drop 4 | exact h.drop 5 | exact h.drop 6 | exact h.drop 7 | exact h.drop 8 | exact h.drop 9 | exact h.drop 10 | exact h.drop 11 | exact h.drop 12 | exact h.drop 13) (fun _ _ => ?_) | refine GE.ol 4 (by as_aux_lemma => kernel_rfl) rfl rfl (og_runs (rv_index rfl rfl (by first | exact Rd.stays (by assumption) | exact Rd.owned 0 rfl | exact Rd.owned 1 rfl | exact Rd.owned 2 rfl) rfl (by assumption))) rfl (fun _ _ h => by first | exact h | exact h.drop 1 | exact h.drop 2 | exact h.drop 3 | exact h.drop 4 | exact h.drop 5 | exact h.drop 6 | exact h.drop 7 | exact h.drop 8 | exact h.drop 9 | exact h.drop 10 | exact h.drop 11 | exact h.drop 12 | exact h.drop 13) (fun _ _ => ?_))
       refine GE.ol 5 (by as_aux_lemma => kernel_rfl) rfl rfl (og_runs (rv_loadE rfl (by first | exact Rd.stays (by assumption) | exact Rd.owned 0 rfl | exact Rd.owned 1 rfl | exact Rd.owned 2 rfl) (by first | exact e2 | exact e3) rfl)) rfl (fun _ _ h => by first | exact h | exact h.drop 1 | exact h.drop 2 | exact h.drop 3 | exact h.drop 4 | exact h.drop 5 | exact h.drop 6 | exact h.drop 7 | exact h.drop 8 | exact h.drop 9 | exact h.drop 10 | exact h.drop 11 | exact h.drop 12 | exact h.drop 13) (fun _ _ => ?_)
       (first | refine GE.ol 6 (by as_aux_lemma => kernel_rfl) rfl rfl (og_runs (rv_indexH rfl rfl (by first | exact Rd.stays (by assumption) | exact Rd.owned 0 rfl | exact Rd.owned 1 rfl | exact Rd.owned 2 rfl) rfl (by first | exact e2 | exact e3))) rfl (fun _ _ h => by first | exact h | exact h.drop 1 | exact h.drop 2 | exact h.drop 3 | exact h.drop 4 | exact h.drop 5 | exact h.drop 6 | exact h.drop 7 | exact h.drop 8 | exact h.drop 9 | exact h.drop 10 | exact h.drop 11 | exact h.drop 12 | exact h.drop 13) (fun _ _ => ?_) | refine GE.ol 6 (by as_aux_lemma => kernel_rfl) rfl rfl (og_runs (rv_index rfl rfl (by first | exact Rd.stays (by assumption) | exact Rd.owned 0 rfl | exact Rd.owned 1 rfl | exact Rd.owned 2 rfl) rfl (by assumption))) rfl (fun _ _ h => by first | exact h | exact h.drop 1 | exact h.drop 2 | exact h.drop 3 | exact h.drop 4 | exact h.drop 5 | exact h.drop 6 | exact h.drop 7 | exact h.drop 8 | exact h.drop 9 | exact h.drop 10 | exact h.drop 11 | exact h.drop 12 | exact h.drop 13) (fun _ _ => ?_))
       (first | refine GE.ol 7 (by as_aux_lemma => kernel_rfl) rfl rfl (og_runs (rv_loadEW rfl (by first | exact Rd.stays (by assumption) | exact Rd.owned 0 rfl | exact Rd.owned 1 rfl | exact Rd.owned 2 rfl) (by first | exact e2 | exact e3) rfl)) rfl (fun _ _ h => by first | exact h | exact h.drop 1 | exact h.drop 2 | exact h.drop 3 | exact h.drop 4 | exact h.drop 5 | exact h.drop 6 | exact h.drop 7 | exact h.drop 8 | exact h.drop 9 | exact h.drop 10 | exact h.drop 11 | exact h.drop 12 | exact h.drop 13) (fun _ _ => ?_) | refine GE.ol 7 (by as_aux_lemma => kernel_rfl) rfl rfl (og_runs (rv_loadEP rfl (by first | exact Rd.stays (by assumption) | exact Rd.owned 0 rfl | exact Rd.owned 1 rfl | exact Rd.owned 2 rfl) (by first | exact e2 | exact e3) (.one (.one (.one (.one (.one (.one (.one .nil))))))))) rfl (fun _ _ h => by first | exact h | exact h.drop 1 | exact h.drop 2 | exact h.drop 3 | exact h.drop 4 | exact h.drop 5 | exact h.drop 6 | exact h.drop 7 | exact h.drop 8 | exact h.drop 9 | exact h.drop 10 | exact h.drop 11 | exact h.drop 12 | exact h.drop 13) (fun _ _ => ?_))
       (first | refine GE.t0 8 (by as_aux_lemma => kernel_rfl) rfl rfl rfl (og_st0 rfl rfl rfl rfl rfl rfl (.zero (.cons (.cons (.cons (.cons (.cons (.cons (.cons .nil))))))))) (fun _ _ => ?_) | refine GE.t0 8 (by as_aux_lemma => kernel_rfl) rfl rfl rfl (og_st1 rfl rfl rfl rfl rfl rfl (.zero (.cons (.cons (.cons (.cons (.cons (.cons (.cons .nil))))))))) (fun _ _ => ?_) | refine GE.t0 8 (by as_aux_lemma => kernel_rfl) rfl rfl rfl (og_st2 rfl rfl rfl rfl rfl rfl (.zero (.cons (.cons (.cons (.cons (.cons (.cons (.cons .nil))))))))) (fun _ _ => ?_))
       refine GE.t 9 (by as_aux_lemma => kernel_rfl) rfl rfl rfl (og_runs (rv_assign rfl)) rfl (fun _ _ => ?_)
       refine GE.done (by as_aux_lemma => kernel_rfl) ?_
       refine G.thenN ?_
       refine G.ret ?_
       first | (rw [itemOr, hno]; exact G.retVL rfl (.cons (by first | exact .cell 0 rfl rfl rfl | exact .cell 1 rfl rfl rfl | exact .cell 2 rfl rfl rfl | exact .cell 3 rfl rfl rfl | exact .cell 4 rfl rfl rfl | exact .cell 5 rfl rfl rfl | exact .cell 6 rfl rfl rfl | exact .cell 7 rfl rfl rfl | exact .cell 8 rfl rfl rfl | exact .cell 9 rfl rfl rfl | exact .cell 10 rfl rfl rfl | exact .cell 11 rfl rfl rfl | exact .cell 12 rfl rfl rfl | exact .cell 13 rfl rfl rfl) (.cons (.tmp rfl) .nil)) rfl) | (rw [itemOr, hit]; exact G.retVL rfl (.cons (by first | exact .cell 0 rfl rfl rfl | exact .cell 1 rfl rfl rfl | exact .cell 2 rfl rfl rfl | exact .cell 3 rfl rfl rfl | exact .cell 4 rfl rfl rfl | exact .cell 5 rfl rfl rfl | exact .cell 6 rfl rfl rfl | exact .cell 7 rfl rfl rfl | exact .cell 8 rfl rfl rfl | exact .cell 9 rfl rfl rfl | exact .cell 10 rfl rfl rfl | exact .cell 11 rfl rfl rfl | exact .cell 12 rfl rfl rfl | exact .cell 13 rfl rfl rfl) (.cons (.tmp rfl) .nil)) rfl)
theorem sgramOf_any {r : ReqM} {pv tv iv uv : Value} {us : List Int} (w : World) (h : Rd w pv 2 (r.pairs.map PairM.cells)) (h2 : Rd w tv 7 (r.types.map TypeM.cells)) (h3 : Rd w iv 7 (r.items.map ItemM.cells)) (h4 : Rd w uv 1 (us.map icell)) (hul : us.length ≤ 1048576) :
    FnV Tryz.prog 73 [.agg (r.cells pv tv iv).toArray, uv] w (.int .i64 (gramM r us)) := by
  have hul2 : (us.map icell).length = us.length := by simp
  refine FnV.of (n := 33) Tryz.func73 rfl rfl ?_
  refine G.seq ?_
  refine G.region ?_
  refine G.op (og_box rfl rfl) rfl (fun bk2 _ => ?_)
  refine G.v (rv_assign rfl) rfl ?_
  refine G.done ?_
  refine G.thenN ?_
  refine G.seq ?_
  refine G.region ?_
  (first | refine G.v (rv_loadW 0 rfl rfl rfl) rfl ?_ | refine G.v (rv_loadW 1 rfl rfl rfl) rfl ?_ | refine G.v (rv_loadW 2 rfl rfl rfl) rfl ?_ | refine G.v (rv_loadW 3 rfl rfl rfl) rfl ?_ | refine G.v (rv_loadP 0 rfl rfl (.one (.one (.one (.one (.one (.one (.one (.one (.one (.one .nil))))))))))) rfl ?_ | refine G.v (rv_loadP 1 rfl rfl (.one (.one (.one (.one (.one (.one (.one (.one (.one (.one .nil))))))))))) rfl ?_ | refine G.v (rv_loadP 2 rfl rfl (.one (.one (.one (.one (.one (.one (.one (.one (.one (.one .nil))))))))))) rfl ?_ | refine G.v (rv_loadP 3 rfl rfl (.one (.one (.one (.one (.one (.one (.one (.one (.one (.one .nil))))))))))) rfl ?_)
  (refine G.op (og_callF1 rfl rfl (fun w hh => sunits_any (r := r) w (Rd.stays h _ hh) (Rd.stays h2 _ hh) (Rd.stays h3 _ hh))) rfl ?_; rintro vu hvu; try dsimp only)
  refine G.v (rv_assign rfl) rfl ?_
  refine G.done ?_
  refine G.thenN ?_
  refine G.seq ?_
  refine G.region ?_
  refine G.v (rv_assign rfl) rfl ?_
  refine G.done ?_
  refine G.thenN ?_
  refine G.seq ?_
  refine G.seq ?_
  refine G.region ?_
  refine G.v (rv_assign rfl) rfl ?_
  refine G.done ?_
  refine G.thenN ?_
  refine G.block ?_
  -- loop 0: turned [6, 7], kept [1, 2, 5]
  refine G.loopK (ι := Nat) (ks := [1, 2, 5]) (fun k => [(6, .int .i64 (gramM r (us.take k))), (7, .int .i64 k)]) (fun _ => []) (fun k => k ≤ us.length) (fun k => us.length - k) 0 (.cons rfl (.cons rfl (.cons rfl (.nil)))) rfl ?_ ?_ ?_
  · exact Nat.zero_le _
  · exact ⟨rfl, rfl, trivial⟩
  rintro k hk
  have hgi := gram_in r (us.take k)
  rw [List.length_take, Nat.min_eq_left hk] at hgi
  by_cases hlt : k < us.length
  case' pos => (obtain ⟨u, hb⟩ := get_of_lt hlt; have e1 := get_map hb icell; have hbg := gOf_in r u; have hgt := gram_take (r := r) hb; have hog := itemOr_g r u)
  all_goals
   refine G.seq ?_
   refine G.seq ?_
   refine G.region ?_
   refine G.v (rv_move rfl) rfl ?_
   refine G.v (rv_move rfl) rfl ?_
   refine G.v (rv_len rfl (by first | exact Rd.stays (by assumption) | exact Rd.owned 0 rfl | exact Rd.owned 1 rfl | exact Rd.owned 2 rfl | exact Rd.owned 3 rfl)) rfl ?_
   refine G.v (rv_lss rfl rfl) rfl ?_
   refine G.done ?_
   refine G.thenN ?_
   refine G.cond rfl (fun hc => ?_) (fun hc => ?_)
   · try exact Bool.noConfusion hc
     all_goals
      try replace hc := of_decide_eq_true hc
      try (exfalso; first | contradiction | omega)
      all_goals
       refine G.skip ?_
       refine G.thenN ?_
       refine G.seq ?_
       refine G.block ?_
       refine G.seq ?_
       refine G.drawL [12] ?_
       (first | refine GE.q 0 rfl (by as_aux_lemma => kernel_rfl) rfl (qg_runs (rv_loadW 0 rfl rfl rfl)) rfl ?_ | refine GE.q 0 rfl (by as_aux_lemma => kernel_rfl) rfl (qg_runs (rv_loadW 1 rfl rfl rfl)) rfl ?_ | refine GE.q 0 rfl (by as_aux_lemma => kernel_rfl) rfl (qg_runs (rv_loadW 2 rfl rfl rfl)) rfl ?_ | refine GE.q 0 rfl (by as_aux_lemma => kernel_rfl) rfl (qg_runs (rv_loadW 3 rfl rfl rfl)) rfl ?_ | refine GE.q 0 rfl (by as_aux_lemma => kernel_rfl) rfl (qg_runs (rv_loadP 0 rfl rfl (.one (.one (.one (.one (.one (.one (.one (.one (.one (.one .nil)))))))))))) rfl ?_ | refine GE.q 0 rfl (by as_aux_lemma => kernel_rfl) rfl (qg_runs (rv_loadP 1 rfl rfl (.one (.one (.one (.one (.one (.one (.one (.one (.one (.one .nil)))))))))))) rfl ?_ | refine GE.q 0 rfl (by as_aux_lemma => kernel_rfl) rfl (qg_runs (rv_loadP 2 rfl rfl (.one (.one (.one (.one (.one (.one (.one (.one (.one (.one .nil)))))))))))) rfl ?_ | refine GE.q 0 rfl (by as_aux_lemma => kernel_rfl) rfl (qg_runs (rv_loadP 3 rfl rfl (.one (.one (.one (.one (.one (.one (.one (.one (.one (.one .nil)))))))))))) rfl ?_)
       refine GE.q 1 rfl (by as_aux_lemma => kernel_rfl) rfl (qg_runs (rv_move rfl)) rfl ?_
       refine GE.q 2 rfl (by as_aux_lemma => kernel_rfl) rfl (qg_runs (rv_move rfl)) rfl ?_
       refine GE.q 3 rfl (by as_aux_lemma => kernel_rfl) rfl (qg_runs (rv_move rfl)) rfl ?_
       (first | refine GE.q 4 rfl (by as_aux_lemma => kernel_rfl) rfl (qg_runs (rv_indexH rfl rfl (by first | exact Rd.stays (by assumption) | exact Rd.owned 0 rfl | exact Rd.owned 1 rfl | exact Rd.owned 2 rfl | exact Rd.owned 3 rfl) rfl (by assumption))) rfl ?_ | refine GE.q 4 rfl (by as_aux_lemma => kernel_rfl) rfl (qg_runs (rv_index rfl rfl (by first | exact Rd.stays (by assumption) | exact Rd.owned 0 rfl | exact Rd.owned 1 rfl | exact Rd.owned 2 rfl | exact Rd.owned 3 rfl) rfl (by assumption))) rfl ?_)
       refine GE.q 5 rfl (by as_aux_lemma => kernel_rfl) rfl (qg_runs (rv_loadE rfl (by first | exact Rd.stays (by assumption) | exact Rd.owned 0 rfl | exact Rd.owned 1 rfl | exact Rd.owned 2 rfl | exact Rd.owned 3 rfl) (by assumption) rfl)) rfl ?_
       refine GE.q 6 rfl (by as_aux_lemma => kernel_rfl) rfl (qg_call rfl rfl (fun w hh => l6Item_any (r := r) u w (Rd.stays h3 _ hh) (by first | exact Rd.owned 0 rfl _ hh | exact Rd.owned 1 rfl _ hh | exact Rd.owned 2 rfl _ hh | exact Rd.owned 3 rfl _ hh))) rfl ?_
       refine GE.q 7 rfl (by as_aux_lemma => kernel_rfl) rfl (qg_runs (rv_move rfl)) rfl ?_
       refine GE.q 8 rfl (by as_aux_lemma => kernel_rfl) rfl (qg_runs (rv_extract rfl rfl)) rfl ?_
       refine GE.q 9 rfl (by as_aux_lemma => kernel_rfl) rfl (qg_runs (rv_extract rfl rfl)) rfl ?_
       refine GE.ol 10 (by as_aux_lemma => kernel_rfl) rfl rfl (og_alloc) rfl (fun _ _ h => by first | exact h | exact h.drop 1 | exact h.drop 2 | exact h.drop 3 | exact h.drop 4 | exact h.drop 5 | exact h.drop 6 | exact h.drop 7 | exact h.drop 8 | exact h.drop 9 | exact h.drop 10 | exact h.drop 11 | exact h.drop 12 | exact h.drop 13) (fun bk8 _ => ?_)
       (first | refine GE.ol0 11 (by as_aux_lemma => kernel_rfl) rfl rfl (og_st0 rfl rfl rfl rfl rfl rfl (.zero (.cons (.cons (.cons (.cons (.cons (.cons (.cons .nil))))))))) (fun _ _ h => by first | exact h | exact h.drop 1 | exact h.drop 2 | exact h.drop 3 | exact h.drop 4 | exact h.drop 5 | exact h.drop 6 | exact h.drop 7 | exact h.drop 8 | exact h.drop 9 | exact h.drop 10 | exact h.drop 11 | exact h.drop 12 | exact h.drop 13) (fun _ _ => ?_) | refine GE.ol0 11 (by as_aux_lemma => kernel_rfl) rfl rfl (og_st1 rfl rfl rfl rfl rfl rfl (.zero (.cons (.cons (.cons (.cons (.cons (.cons (.cons .nil))))))))) (fun _ _ h => by first | exact h | exact h.drop 1 | exact h.drop 2 | exact h.drop 3 | exact h.drop 4 | exact h.drop 5 | exact h.drop 6 | exact h.drop 7 | exact h.drop 8 | exact h.drop 9 | exact h.drop 10 | exact h.drop 11 | exact h.drop 12 | exact h.drop 13) (fun _ _ => ?_) | refine GE.ol0 11 (by as_aux_lemma => kernel_rfl) rfl rfl (og_st2 rfl rfl rfl rfl rfl rfl (.zero (.cons (.cons (.cons (.cons (.cons (.cons (.cons .nil))))))))) (fun _ _ h => by first | exact h | exact h.drop 1 | exact h.drop 2 | exact h.drop 3 | exact h.drop 4 | exact h.drop 5 | exact h.drop 6 | exact h.drop 7 | exact h.drop 8 | exact h.drop 9 | exact h.drop 10 | exact h.drop 11 | exact h.drop 12 | exact h.drop 13) (fun _ _ => ?_) | refine GE.ol0 11 (by as_aux_lemma => kernel_rfl) rfl rfl (og_st3 rfl rfl rfl rfl rfl rfl (.zero (.cons (.cons (.cons (.cons (.cons (.cons (.cons .nil))))))))) (fun _ _ h => by first | exact h | exact h.drop 1 | exact h.drop 2 | exact h.drop 3 | exact h.drop 4 | exact h.drop 5 | exact h.drop 6 | exact h.drop 7 | exact h.drop 8 | exact h.drop 9 | exact h.drop 10 | exact h.drop 11 | exact h.drop 12 | exact h.drop 13) (fun _ _ => ?_))
       refine GE.t 12 (by as_aux_lemma => kernel_rfl) rfl rfl rfl (og_runs (rv_assign rfl)) rfl (fun _ _ => ?_)
       refine GE.done (by as_aux_lemma => kernel_rfl) ?_
       refine G.thenN ?_
       refine G.region ?_
       refine G.v (rv_move rfl) rfl ?_
       (first | refine G.v (rv_field rfl) rfl ?_ | refine G.v (rv_fieldE rfl) rfl ?_)
       (first | refine G.v (rv_load1 0 rfl rfl rfl) rfl ?_ | refine G.v (rv_load1 1 rfl rfl rfl) rfl ?_ | refine G.v (rv_load1 2 rfl rfl rfl) rfl ?_ | refine G.v (rv_load1 3 rfl rfl rfl) rfl ?_)
       (first | refine G.v (rv_incr rfl rfl (by omega)) rfl ?_ | refine G.v (rv_addB rfl rfl (by omega) (by omega)) rfl ?_)
       refine G.v (rv_assign rfl) rfl ?_
       refine G.done ?_
       refine G.inN ?_
       refine G.thenN ?_
       refine G.region ?_
       refine G.v (rv_move rfl) rfl ?_
       (first | refine G.v (rv_incr rfl rfl (by omega)) rfl ?_ | refine G.v (rv_addB rfl rfl (by omega) (by omega)) rfl ?_)
       refine G.v (rv_assign rfl) rfl ?_
       refine G.done ?_
       first | refine G.backK (k + 1) 0 rfl (.cons rfl (.cons rfl (.cons rfl (.nil)))) ?_ ?_ ?_ | refine G.backK (k + 1) 1 rfl (.cons rfl (.cons rfl (.cons rfl (.nil)))) ?_ ?_ ?_ | refine G.backK (k + 1) 2 rfl (.cons rfl (.cons rfl (.cons rfl (.nil)))) ?_ ?_ ?_
       · exact ⟨congrArg (fun z => some (Value.int .i64 z)) (by rw [hgt, ← hog]), rfl, trivial⟩
       · exact hlt
       · omega
   · try exact Bool.noConfusion hc
     all_goals
      try replace hc := of_decide_eq_false hc
      try (exfalso; first | contradiction | omega)
      all_goals
       refine G.exit ?_
       refine G.thenX ?_
       refine G.thenX ?_
       refine G.inX ?_
       refine G.thenN ?_
       refine G.seq ?_
       refine G.region ?_
       refine G.v (rv_move rfl) rfl ?_
       refine G.v (rv_assign rfl) rfl ?_
       refine G.done ?_
       refine G.thenN ?_
       refine G.ret ?_
       exact G.retFV rfl rfl (congrArg (Value.int .i64) (by rw [take_all (by omega)]))
end Go.Proofs.YtpmphkcibiimcaaGreat
