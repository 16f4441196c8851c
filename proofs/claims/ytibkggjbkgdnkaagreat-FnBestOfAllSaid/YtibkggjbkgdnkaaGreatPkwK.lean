/-
  Texts of this proof, one behind the other: DrawP, BestAllW.
-/
import Derived.Test.YtibkggjbkgdnkaaGreatPkwE
import Derived.Test.YtibkggjbkgdnkaaGreatPkwJ
import Derived.Test.YtibkggjbkgdnkaaGreatPkwD
import Derived.Test.YtibkggjbkgdnkaaGreatPkwG
import Derived.Test.YtibkggjbkgdnkaaGreatPkwI
set_option linter.unusedVariables false
set_option linter.unusedSimpArgs false

/-
  An order, units and cartons, as the draw of the packings hands them out.
-/
namespace Go.Proofs.YtibkggjbkgdnkaaGreat
open Go.RowKit
theorem og_callF6 {P : Program} {n : Nat} {w0 : World} {fr : Fr} {H : List Ch} {f : FuncId} [hF : FnOk P f] {fo : Operand} {xs : List Operand} {vs caps : List Value} {ts : Array TypeId} {X : Type} {φ : X → Prop} {rv : X → Value} {o1 o2 o3 o4 o5 o6 : X → Ch} (hf : opv fr fo = some (.func (.func f) #[] caps.toArray)) (hx : opvs fr xs = some vs) (hc : ∀ w, HeapOk w0 w H → Fn P f (vs ++ caps) w φ rv (fun x => [o1 x, o2 x, o3 x, o4 x, o5 x, o6 x])) :
    OpG P n w0 fr H (.call ⟨.value fo, xs.toArray, ts⟩) φ rv (fun x => o1 x :: o2 x :: o3 x :: o4 x :: o5 x :: o6 x :: H) := og_callF hf hx hc
theorem flat_lenS : ∀ l : List (List Int), l.flatten.length = (l.map List.length).sum
  | [] => rfl
  | x :: r => by rw [List.flatten_cons, List.length_append, List.map_cons, List.sum_cons, flat_lenS r]
theorem nr_len2 {ws : List (List Int × Value)} {n : Nat} (hn : (ws.map Prod.fst).flatten.length ≤ n) {i : Nat} {t : List Int × Value} (ht : ws[i]? = some t) : t.1.length ≤ n := by
  have h : t.1 ∈ ws.map Prod.fst := List.mem_map_of_mem (List.mem_of_getElem? ht)
  have := len_le_sum h
  rw [flat_lenS] at hn
  omega
theorem way_sum (r : ReqM) (us : List Int) : ((wayM r us).map List.length).sum ≤ us.length := wayM_sum r us
theorem way_len48 (r : ReqM) (us : List Int) : (wayM r us).length ≤ us.length := by
  rw [wayM]; split
  · exact next_len48 r us
  · exact first_len48 r us
theorem two_flat {ws : List (List Int × Value)} {g0 g1 : List Int × Value} {v : Value} (ef : (ws.map Prod.fst).flatten.length ≤ 48) (h0 : ws[0]? = some g0) (h1 : ws[1]? = some g1) : (((g0.1 ++ g1.1, v) :: ws.drop 2).map Prod.fst).flatten.length ≤ 100 := by
  match ws, h0, h1 with
  | a :: b :: t, h0, h1 =>
    cases h0; cases h1
    simp only [List.map_cons, List.flatten_cons, List.length_append, List.drop_succ_cons, List.drop_zero] at ef ⊢
    omega
theorem grp_two {ws : List (List Int × Value)} {T : TypeId} {v : Value} {x : List Int} {w0 w : World} {F : List Ch} (h : HeapOk w0 w (.row v T 1 (x.map icell) :: .grp T 1 (ws.map (sub id)) :: F)) : HeapOk w0 w (.grp T 1 (((x, v) :: ws.drop 2).map (sub id)) :: F) := by
  have h2 : HeapOk w0 w (.grp T 1 (ws.map (sub id)) :: .row v T 1 (x.map icell) :: F) := h.perm (List.Perm.swap _ _ _)
  have h3 : HeapOk w0 w (.grp T 1 ((ws.drop 2).map (sub id)) :: .row v T 1 (x.map icell) :: F) := h2.grpSub ((List.drop_sublist 2 ws).map _)
  exact (h3.perm (List.Perm.swap _ _ _)).join
attribute [local irreducible] Go.wpList Go.Code.wp Go.Exit.then Go.Exit.inBlock Go.bodyPost Go.Calls pE pB G RunsV FnV Fn FnM
set_option maxRecDepth 100000
set_option maxHeartbeats 4000000
theorem dDrawIsPacking_any {v : Value} {l : List Int} (w : World) (hv : Rd w v 1 (l.map bcell)) : Fn Tryz.prog 64 [v] w (fun x : (((ReqM × Value × Value × Value) × Value × List (List Value)) × Value × List Int) × Value × List (List Int × Value) => (DrawnOk x.1.1 ∧ x.1.2.1.oneCell' = true ∧ x.1.2.2.length ≤ 48) ∧ x.2.1.oneCell' = true ∧ (x.2.2.map Prod.fst).flatten.length ≤ 100)
    (fun x => .tuple #[.agg (x.1.1.1.1.cells x.1.1.1.2.1 x.1.1.1.2.2.1 x.1.1.1.2.2.2).toArray, x.1.2.1, x.2.1]) (fun x => [.grp 3 1 (x.2.2.map (sub id)), .row x.2.1 44 1 (x.2.2.map gcell), .row x.1.2.1 3 1 (x.1.2.2.map icell), .row x.1.1.1.2.2.2 106 7 (x.1.1.1.1.items.map ItemM.cells), .row x.1.1.1.2.2.1 82 7 (x.1.1.1.1.types.map TypeM.cells), .row x.1.1.2.1 145 2 x.1.1.2.2]) := by
  refine Fn.of (n := 56) Tryz.func64 rfl rfl ?_; refine G.seq (G.region ?_); refine G.op (og_alloc) rfl (fun bk2 _ => ?_); refine G.v (rv_assign rfl) rfl (G.v (rv_assign rfl) rfl (G.done (G.thenN (G.seq (G.region (G.v (rv_move rfl) rfl ?_))))))
  (refine G.op (og_callF4 rfl rfl (fun w hh => l7Some_any w (by exact Rd.stays (by assumption) _ hh))) rfl ?_; rintro ⟨⟨⟨r, pv, tv, iv⟩, pv0, es0⟩, lv, us⟩ ⟨hdr, holv, hul⟩; try dsimp only)
  refine G.v (rv_move rfl) rfl ?_
  have hopv := hdr.1.1; have hotv := hdr.1.2.1; have hoiv := hdr.1.2.2; dsimp only at hopv hotv hoiv hul
  have hnl : (Value.slice none 0 0).oneCell' = true := rfl
  refine G.v (rv_extract rfl rfl) rfl (G.v (rv_extract rfl rfl) rfl ?_); refine G.op (og_alloc) rfl (fun bk5 _ => ?_); refine G.op0 (og_st0 rfl rfl rfl rfl rfl (by repeat (first | rfl | refine one_cons (by first | rfl | assumption) ?_)) (.zero (.cons (.cons (.cons (.cons (.cons (.cons (.cons (.cons (.cons (.cons .nil)))))))))))) (fun _ _ => ?_); refine G.v (rv_assign rfl) rfl (G.done (G.thenN (G.seq (G.region (G.v (rv_move rfl) rfl ?_)))))
  (refine G.op (og_callF1 rfl rfl (fun w hh => l1New_any w (by exact Rd.stays (by assumption) _ hh))) rfl ?_; rintro ⟨cb, ch⟩ _; try dsimp only)
  have h0 : (0 : Nat) ≤ l.length := Nat.zero_le _
  refine G.v (rv_assign rfl) rfl (G.done (G.thenN (G.seq (G.region (G.v (rv_loadW 1 rfl rfl rfl) rfl (G.v (rv_move rfl) rfl ?_))))))
  (refine G.op (og_callF2 rfl rfl (fun w hh => spackWay_any (r := r) (us := us) w (hdr.2.1 _ (by exact Rd.owned 5 rfl _ hh)) (by exact Rd.owned 4 rfl _ hh) (by exact Rd.owned 3 rfl _ hh) (by exact Rd.owned 2 rfl _ hh) (by omega))) rfl ?_; rintro ⟨vw, ws⟩ ⟨hvw, hws⟩; try dsimp only)
  have ew := way_sum r us; have ef : (ws.map Prod.fst).flatten.length ≤ 48 := (by rw [flat_lenS, show ws.map Prod.fst = wayM r us from hws]; exact Nat.le_trans ew hul)
  have hwl : (ws.map gcell).length = ws.length := List.length_map ..
  have hwl2 : ws.length ≤ 48 := (by have h1 := way_len48 r us; have h2 : ws.length = (wayM r us).length := (by rw [← show ws.map Prod.fst = wayM r us from hws, List.length_map]); omega)
  refine G.v (rv_assign rfl) rfl (G.done (G.thenN (G.seq (G.seq (G.region (G.v (rv_move rfl) rfl ?_))))))
  (refine G.op (og_callM2 rfl rfl rfl (l1Below_any _ (by assumption) (by assumption)).toF) rfl ?_; rintro ⟨xr, xi, xh⟩ ⟨⟨hx0, hx1⟩, hxi⟩; try dsimp only)
  refine G.done (G.thenN (G.block (G.seq (G.region (G.v (rv_eql rfl rfl) rfl (G.v (rv_assign rfl) rfl (G.done (G.thenN ?_)))))))); refine G.cond rfl (fun hc => ?_) (fun hc => ?_)
  · try exact Bool.noConfusion hc
    all_goals
     try replace hc := of_decide_eq_true hc
     try simp only [List.length_map] at hc
     try (exfalso; contradiction)
     all_goals
      refine G.region (G.v (rv_move rfl) rfl (G.v (rv_move rfl) rfl ?_))
      (refine G.op (og_callM0 rfl rfl rfl (l1Below_any _ (by assumption) (by assumption)).toF) rfl ?_; rintro ⟨xb, xi, xh⟩ ⟨⟨hy0, hy1⟩, hxi⟩; try dsimp only)
      refine G.v (rv_subB rfl rfl (by omega) (by omega)) rfl ?_; refine G.op (og_lit rfl (.cons rfl .nil) rfl rfl rfl rfl rfl rfl) rfl (fun vx _ => ?_); refine G.know (fun w hw => (Rd.owned 0 rfl (v := vx) w hw).one_) (fun hovx => ?_); refine G.op (og_lit rfl (.cons (cells_one (by assumption)) .nil) (by simp only [List.all_cons, List.all_nil, Bool.and_true, Bool.and_eq_true]; exact ⟨rfl, by assumption⟩) rfl rfl rfl rfl rfl) rfl (fun vy _ => ?_); refine G.op (og_app4 rfl rfl rfl (by exact Rd.owned 0 rfl) rfl rfl (by (simp; omega)) (by (simp; omega))) rfl (fun va _ => ?_); refine G.know (fun w hw => by exact (Rd.owned 4 rfl (v := va) w hw).one_) (fun hova => ?_); refine G.frontG3 _ rfl ?_; refine G.frontR2 vx rfl ?_; refine G.pushRow ((ws ++ [([xb - 1], vx)]).map (sub id)) push_sub rfl ?_; refine G.frontR3 va rfl ?_; refine G.rowEq ((ws ++ [([xb - 1], vx)]).map gcell) push_g rfl ?_
      have hcl : ((ws ++ [([xb - 1], vx)]).map Prod.fst).flatten.length ≤ 100 := (by rw [List.map_append, List.flatten_append, List.length_append]; have : ([([xb - 1], vx)].map Prod.fst).flatten.length = 1 := rfl; omega)
      generalize hcs : ws ++ [([xb - 1], vx)] = cs at hcl ⊢
      refine G.v (rv_assign rfl) rfl (G.done (G.inN (G.thenN (G.seq (G.region (G.v (rv_loadW 4 rfl rfl rfl) rfl (G.v (rv_move rfl) rfl (G.v (rv_move rfl) rfl ?_)))))))); refine G.op0 (og_st9 rfl rfl rfl rfl rfl (by repeat (first | rfl | refine one_cons (by first | rfl | assumption) ?_)) (.zero (.cons (.cons (.cons (.cons (.cons (.cons (.cons (.cons (.cons (.cons .nil)))))))))))) (fun _ _ => ?_); refine G.v (rv_assign rfl) rfl (G.v (rv_assign rfl) rfl (G.done (G.thenN (G.ret ?_))))
      (refine G.frontB9 bk2 rfl ?_); (refine G.frontR9 pv0 rfl ?_); (refine G.frontR9 tv rfl ?_); (refine G.frontR9 iv rfl ?_); (refine G.frontR9 lv rfl ?_); (refine G.frontR5 va rfl ?_); (refine G.frontG6 _ rfl ?_); refine G.retL ((((r, pv, tv, iv), pv0, es0), lv, us), va, cs) ⟨⟨hdr, holv, hul⟩, hova, hcl⟩ rfl (.cons (.cell 6 rfl rfl rfl) (.cons (.tmp rfl) (.cons (.tmp rfl) .nil))) rfl (fun w hh => hh.sublist ?_); (repeat (first | exact List.Sublist.refl _ | refine List.Sublist.cons_cons _ ?_ | refine List.Sublist.cons _ ?_)); done
  · try exact Bool.noConfusion hc
    all_goals
     try replace hc := of_decide_eq_false hc
     try simp only [List.length_map] at hc
     try (exfalso; contradiction)
     all_goals
      refine G.seq (G.region (G.v (rv_eql rfl rfl) rfl (G.v (rv_assign rfl) rfl (G.done (G.thenN ?_))))); refine G.cond rfl (fun hc => ?_) (fun hc => ?_)
      · try exact Bool.noConfusion hc
        all_goals
         try replace hc := of_decide_eq_true hc
         try simp only [List.length_map] at hc
         try (exfalso; contradiction)
         all_goals
          refine G.region (G.v (rv_move rfl) rfl ?_); refine G.op (og_lit rfl (.cons (cells_one (by rfl)) .nil) (by simp only [List.all_cons, List.all_nil, Bool.and_true, Bool.and_eq_true]; exact ⟨rfl, by assumption⟩) rfl rfl rfl rfl rfl) rfl (fun vy _ => ?_); refine G.op (og_app3 rfl rfl rfl (by exact Rd.owned 0 rfl) rfl rfl (by (simp; omega)) (by (simp; omega))) rfl (fun va _ => ?_); refine G.know (fun w hw => by exact (Rd.owned 3 rfl (v := va) w hw).one_) (fun hova => ?_); refine G.frontG2 _ rfl ?_; refine G.pushNil ((ws ++ [([], Value.slice none 0 0)]).map (sub id)) (by rw [List.map_append]; rfl) rfl ?_; refine G.frontR3 va rfl ?_; refine G.rowEq ((ws ++ [([], Value.slice none 0 0)]).map gcell) (by rw [List.map_append]; rfl) rfl ?_
          have hcl : ((ws ++ [([], Value.slice none 0 0)]).map Prod.fst).flatten.length ≤ 100 := (by rw [List.map_append, List.flatten_append, List.length_append]; have : (([(([] : List Int), Value.slice none 0 0)]).map Prod.fst).flatten.length = 0 := rfl; omega)
          generalize hcs : ws ++ [([], Value.slice none 0 0)] = cs at hcl ⊢
          refine G.v (rv_assign rfl) rfl (G.done (G.inN (G.thenN (G.seq (G.region (G.v (rv_loadW 4 rfl rfl rfl) rfl (G.v (rv_move rfl) rfl (G.v (rv_move rfl) rfl ?_)))))))); refine G.op0 (og_st9 rfl rfl rfl rfl rfl (by repeat (first | rfl | refine one_cons (by first | rfl | assumption) ?_)) (.zero (.cons (.cons (.cons (.cons (.cons (.cons (.cons (.cons (.cons (.cons .nil)))))))))))) (fun _ _ => ?_); refine G.v (rv_assign rfl) rfl (G.v (rv_assign rfl) rfl (G.done (G.thenN (G.ret ?_))))
          (refine G.frontB9 bk2 rfl ?_); (refine G.frontR9 pv0 rfl ?_); (refine G.frontR9 tv rfl ?_); (refine G.frontR9 iv rfl ?_); (refine G.frontR9 lv rfl ?_); (refine G.frontR5 va rfl ?_); (refine G.frontG6 _ rfl ?_); refine G.retL ((((r, pv, tv, iv), pv0, es0), lv, us), va, cs) ⟨⟨hdr, holv, hul⟩, hova, hcl⟩ rfl (.cons (.cell 6 rfl rfl rfl) (.cons (.tmp rfl) (.cons (.tmp rfl) .nil))) rfl (fun w hh => hh.sublist ?_); (repeat (first | exact List.Sublist.refl _ | refine List.Sublist.cons_cons _ ?_ | refine List.Sublist.cons _ ?_)); done
      · try exact Bool.noConfusion hc
        all_goals
         try replace hc := of_decide_eq_false hc
         try simp only [List.length_map] at hc
         try (exfalso; contradiction)
         all_goals
          refine G.seq (G.region (G.v (rv_eql rfl rfl) rfl (G.v (rv_assign rfl) rfl (G.done (G.thenN ?_))))); refine G.cond rfl (fun hc => ?_) (fun hc => ?_)
          · try exact Bool.noConfusion hc
            all_goals
             try replace hc := of_decide_eq_true hc
             try simp only [List.length_map] at hc
             try (exfalso; contradiction)
             all_goals
              refine G.seq (G.region (G.v (rv_move rfl) rfl ?_)); refine G.v (rv_len rfl (by exact Rd.owned 2 rfl)) rfl ?_; refine G.v (rv_gtr rfl rfl) rfl (G.done (G.thenN ?_)); refine G.cond rfl (fun hc => ?_) (fun hc => ?_)
              · try exact Bool.noConfusion hc
                all_goals
                 try replace hc := of_decide_eq_true hc
                 try simp only [List.length_map] at hc
                 try (exfalso; contradiction)
                 all_goals
                  obtain ⟨g0, hg0⟩ := get_of_lt (l := ws) (k := 0) (by omega); obtain ⟨g1, hg1⟩ := get_of_lt (l := ws) (k := 1) (by omega); have he := get_map hg0 gcell; have he2 := get_map hg1 gcell; have hgi : (ws.map (sub id))[0]? = some (g0.2, g0.1.map icell) := get_mapS hg0; have hgj : (ws.map (sub id))[1]? = some (g1.2, g1.1.map icell) := get_mapS hg1
                  have hl0 : g0.1.length ≤ 48 := nr_len2 ef hg0
                  have hl1 : g1.1.length ≤ 48 := nr_len2 ef hg1
                  all_goals
                   refine G.drawL [13] ?_; refine GE.q 1 rfl (by as_aux_lemma => kernel_rfl) rfl (qg_runs (rv_move rfl)) rfl ?_; refine GE.q 2 rfl (by as_aux_lemma => kernel_rfl) rfl (qg_runs (rv_indexH rfl rfl (by exact Rd.owned 2 rfl) rfl (by exact he))) rfl ?_; refine GE.q 3 rfl (by as_aux_lemma => kernel_rfl) rfl (qg_runs (rv_loadE rfl (by exact Rd.owned 2 rfl) (by exact he) rfl)) rfl ?_; refine GE.q 5 rfl (by as_aux_lemma => kernel_rfl) rfl (qg_runs (rv_move rfl)) rfl ?_; refine GE.q 6 rfl (by as_aux_lemma => kernel_rfl) rfl (qg_runs (rv_indexH rfl rfl (by exact Rd.owned 2 rfl) rfl (by exact he2))) rfl ?_; refine GE.q 7 rfl (by as_aux_lemma => kernel_rfl) rfl (qg_runs (rv_loadE rfl (by exact Rd.owned 2 rfl) (by exact he2) rfl)) rfl ?_; refine GE.q 10 rfl (by as_aux_lemma => kernel_rfl) rfl (qg_runs (rv_move rfl)) rfl ?_; refine GE.q 11 rfl (by as_aux_lemma => kernel_rfl) rfl (qg_runs (rv_sliceL (l := 2) rfl rfl (by exact Rd.owned 2 rfl) (by omega))) rfl ?_; refine GE.ol 0 (by as_aux_lemma => kernel_rfl) rfl rfl (og_lit rfl .nil rfl rfl rfl rfl rfl rfl) rfl (fun _ _ h => by exact h.drop 1) (fun vl _ => ?_); refine GE.ol 4 (by as_aux_lemma => kernel_rfl) rfl rfl (og_app0 rfl rfl rfl (by exact Rd.grp 2 rfl (List.mem_of_getElem? hgi)) rfl rfl (by (simp; omega)) (by (simp; omega))) rfl (fun _ _ h => by exact h.drop 1) (fun vl1 _ => ?_)
                   refine GE.ol 8 (by as_aux_lemma => kernel_rfl) rfl rfl (og_app0 rfl rfl rfl (by exact Rd.grp 2 rfl (List.mem_of_getElem? hgj)) rfl rfl (by (simp; omega)) (by (simp; omega))) rfl (fun _ _ h => by exact h.drop 1) (fun vl2 _ => ?_); refine GE.know (fun w hw => (Rd.owned 0 rfl (v := vl2) w hw).one_) (fun hovl2 => ?_); refine GE.ol 9 (by as_aux_lemma => kernel_rfl) rfl rfl (og_lit rfl (.cons (cells_one (by assumption)) .nil) (by simp only [List.all_cons, List.all_nil, Bool.and_true, Bool.and_eq_true]; exact ⟨rfl, by assumption⟩) rfl rfl rfl rfl rfl) rfl (fun _ _ h => by exact h.drop 2) (fun vy _ => ?_); refine GE.ol 12 (by as_aux_lemma => kernel_rfl) rfl rfl (og_app0 rfl rfl rfl (by exact fun w hh => Rd.subL (Rd.owned 4 rfl w hh) (by omega)) rfl rfl (by (simp; omega)) (by (simp; omega))) rfl (fun _ _ h => by exact h.drop 2) (fun va _ => ?_); refine GE.t 13 (by as_aux_lemma => kernel_rfl) rfl rfl rfl (og_runs (rv_assign rfl)) rfl (fun _ _ => ?_); refine GE.done (by as_aux_lemma => kernel_rfl) ?_; refine G.inN (G.thenN (G.seq (G.region (G.v (rv_loadW 5 rfl rfl rfl) rfl (G.v (rv_move rfl) rfl (G.v (rv_move rfl) rfl ?_)))))); refine G.op0 (og_st10 rfl rfl rfl rfl rfl (by repeat (first | rfl | refine one_cons (by first | rfl | assumption) ?_)) (.zero (.cons (.cons (.cons (.cons (.cons (.cons (.cons (.cons (.cons (.cons .nil)))))))))))) (fun _ _ => ?_); refine G.v (rv_assign rfl) rfl ?_
                   refine G.v (rv_assign rfl) rfl (G.done (G.thenN (G.ret ?_)))
                   (refine G.know (fun w hw => by exact (Rd.owned 0 rfl (v := va) w hw).one_) (fun hova => ?_); (refine G.frontB10 bk2 rfl ?_); (refine G.frontR10 pv0 rfl ?_); (refine G.frontR10 tv rfl ?_); (refine G.frontR10 iv rfl ?_); (refine G.frontR10 lv rfl ?_); (refine G.frontR5 va rfl ?_); (refine G.frontG8 _ rfl ?_); (refine G.frontR7 vl2 rfl ?_); refine G.heap (fun w hh => grp_two (x := g0.1 ++ g1.1) (by rw [List.map_append]; exact hh)) ?_; refine G.retL ((((r, pv, tv, iv), pv0, es0), lv, us), va, (g0.1 ++ g1.1, vl2) :: ws.drop 2) ⟨⟨hdr, holv, hul⟩, hova, two_flat ef hg0 hg1⟩ rfl (.cons (.cell 6 rfl rfl rfl) (.cons (.tmp rfl) (.cons (.tmp rfl) .nil))) rfl (fun w hh => hh.sublist ?_); rw [List.map_cons (f := gcell), List.map_drop (f := gcell)]; (repeat (first | exact List.Sublist.refl _ | refine List.Sublist.cons_cons _ ?_ | refine List.Sublist.cons _ ?_)); done)
              · try exact Bool.noConfusion hc
                all_goals
                 try replace hc := of_decide_eq_false hc
                 try simp only [List.length_map] at hc
                 try (exfalso; contradiction)
                 all_goals
                  refine G.skip (G.inN (G.thenN (G.seq (G.region (G.v (rv_loadW 3 rfl rfl rfl) rfl (G.v (rv_move rfl) rfl (G.v (rv_move rfl) rfl ?_))))))); refine G.op0 (og_st8 rfl rfl rfl rfl rfl (by repeat (first | rfl | refine one_cons (by first | rfl | assumption) ?_)) (.zero (.cons (.cons (.cons (.cons (.cons (.cons (.cons (.cons (.cons (.cons .nil)))))))))))) (fun _ _ => ?_); refine G.v (rv_assign rfl) rfl (G.v (rv_assign rfl) rfl (G.done (G.thenN (G.ret ?_))))
                  (refine G.frontB8 bk2 rfl ?_); (refine G.frontR8 pv0 rfl ?_); (refine G.frontR8 tv rfl ?_); (refine G.frontR8 iv rfl ?_); (refine G.frontR8 lv rfl ?_); (refine G.frontR7 vw rfl ?_); (refine G.frontG7 _ rfl ?_); refine G.retL ((((r, pv, tv, iv), pv0, es0), lv, us), vw, ws) ⟨⟨hdr, holv, hul⟩, hvw, Nat.le_trans ef (by decide)⟩ rfl (.cons (.cell 6 rfl rfl rfl) (.cons (.tmp rfl) (.cons (.tmp rfl) .nil))) rfl (fun w hh => hh.sublist ?_); (repeat (first | exact List.Sublist.refl _ | refine List.Sublist.cons_cons _ ?_ | refine List.Sublist.cons _ ?_)); done
          · try exact Bool.noConfusion hc
            all_goals
             try replace hc := of_decide_eq_false hc
             try simp only [List.length_map] at hc
             try (exfalso; contradiction)
             all_goals
              refine G.skip (G.inN (G.thenN (G.seq (G.region (G.v (rv_loadW 3 rfl rfl rfl) rfl (G.v (rv_move rfl) rfl (G.v (rv_move rfl) rfl ?_))))))); refine G.op0 (og_st8 rfl rfl rfl rfl rfl (by repeat (first | rfl | refine one_cons (by first | rfl | assumption) ?_)) (.zero (.cons (.cons (.cons (.cons (.cons (.cons (.cons (.cons (.cons (.cons .nil)))))))))))) (fun _ _ => ?_); refine G.v (rv_assign rfl) rfl (G.v (rv_assign rfl) rfl (G.done (G.thenN (G.ret ?_))))
              (refine G.frontB8 bk2 rfl ?_); (refine G.frontR8 pv0 rfl ?_); (refine G.frontR8 tv rfl ?_); (refine G.frontR8 iv rfl ?_); (refine G.frontR8 lv rfl ?_); (refine G.frontR7 vw rfl ?_); (refine G.frontG7 _ rfl ?_); refine G.retL ((((r, pv, tv, iv), pv0, es0), lv, us), vw, ws) ⟨⟨hdr, holv, hul⟩, hvw, Nat.le_trans ef (by decide)⟩ rfl (.cons (.cell 6 rfl rfl rfl) (.cons (.tmp rfl) (.cons (.tmp rfl) .nil))) rfl (fun w hh => hh.sublist ?_); (repeat (first | exact List.Sublist.refl _ | refine List.Sublist.cons_cons _ ?_ | refine List.Sublist.cons _ ?_)); done
end Go.Proofs.YtibkggjbkgdnkaaGreat

/-
  The law of the best of all.
-/
namespace Go.Proofs.YtibkggjbkgdnkaaGreat
open Go.RowKit
theorem bestall_facts {r : ReqM} {us : List Int} {C : List (List Int)} (h : packM r us C = true) : bestM r us ≤ C.length ∧ lowM r us ≤ C.length := by
  refine ⟨?_, low_pack h⟩
  have := best_le h
  rw [bestM]; split <;> omega
theorem pk_of {b : Bool} (h : (!b) = false) : b = true := by cases b <;> simp_all
attribute [local irreducible] Go.wpList Go.Code.wp Go.Exit.then Go.Exit.inBlock Go.bodyPost Go.Calls pE pB G RunsV FnV Fn FnM
set_option maxRecDepth 100000
set_option maxHeartbeats 4000000
theorem fnBestOfAll_any {v : Value} {l : List Int} {w : World} (h : Rd w v 1 (l.map bcell)) : FnV Tryz.prog 15 [v] w (.bool true) := by
  refine FnV.of (n := 52) Tryz.func15 rfl rfl ?_; refine G.seq (G.region (G.v (rv_assign rfl) rfl (G.done (G.thenN (G.seq (G.seq (G.region (G.v (rv_move rfl) rfl ?_)))))))); refine G.op (og_callV rfl rfl (fun w hh => big_any w (by exact Rd.stays (by assumption) _ hh))) rfl (fun _ _ => ?_); refine G.done (G.thenN ?_); refine G.cond rfl (fun hc => ?_) (fun hc => ?_)
  · try exact Bool.noConfusion hc
    all_goals
     try replace hc := of_decide_eq_true hc
     try (exfalso; contradiction)
     all_goals
      refine G.seq (G.region (G.v (rv_assign rfl) rfl (G.done (G.thenN (G.ret (G.thenR ?_))))))
      exact G.retFV rfl rfl rfl
  · try exact Bool.noConfusion hc
    all_goals
     try replace hc := of_decide_eq_false hc
     try (exfalso; contradiction)
     all_goals
      refine G.skip (G.thenN (G.seq (G.region (G.v (rv_move rfl) rfl ?_))))
      (refine G.op (og_callF6 rfl rfl (fun w hh => dDrawIsPacking_any w (by exact Rd.stays (by assumption) _ hh))) rfl ?_; rintro ⟨⟨⟨⟨r, pv, tv, iv⟩, pv0, es0⟩, lv, us⟩, cv, cs⟩ ⟨⟨hdr, holv, hul⟩, hocv, hcl⟩; try dsimp only)
      refine G.v (rv_move rfl) rfl ?_
      have hopv := hdr.1.1; have hotv := hdr.1.2.1; have hoiv := hdr.1.2.2; dsimp only at hopv hotv hoiv hul hcl
      have hlc : (cs.map gcell).length = (cs.map Prod.fst).length := (by simp)
      refine G.v (rv_extract rfl rfl) rfl (G.v (rv_extract rfl rfl) rfl (G.v (rv_extract rfl rfl) rfl ?_)); refine G.op (og_alloc) rfl (fun bk3 _ => ?_); refine G.op0 (og_st0 rfl rfl rfl rfl rfl (by repeat (first | rfl | refine one_cons (by first | rfl | assumption) ?_)) (.zero (.cons (.cons (.cons (.cons (.cons (.cons (.cons (.cons (.cons (.cons .nil)))))))))))) (fun _ _ => ?_); refine G.v (rv_assign rfl) rfl (G.v (rv_assign rfl) rfl (G.done (G.thenN (G.seq (G.region (G.v (rv_loadW 0 rfl rfl rfl) rfl (G.v (rv_move rfl) rfl (G.v (rv_move rfl) rfl ?_)))))))); refine G.op (og_callV rfl rfl (fun w hh => isPacking_any (r := r) (us := us) (l := cs) w (hdr.2.1 _ (by exact Rd.owned 6 rfl _ hh)) (by exact Rd.owned 5 rfl _ hh) (by exact Rd.owned 4 rfl _ hh) (by exact Rd.owned 3 rfl _ hh) (by exact Rd.owned 2 rfl _ hh) (by exact Subs.owned 1 rfl _ hh) (by omega) (by omega))) rfl (fun _ _ => ?_); refine G.v (rv_assign rfl) rfl (G.done (G.thenN (G.seq (G.region (G.v (rv_loadW 0 rfl rfl rfl) rfl (G.v (rv_move rfl) rfl ?_)))))); refine G.op (og_callV rfl rfl (fun w hh => best_any (r := r) (us := us) w (hdr.2.1 _ (by exact Rd.owned 6 rfl _ hh)) (by exact Rd.owned 5 rfl _ hh) (by exact Rd.owned 4 rfl _ hh) (by exact Rd.owned 3 rfl _ hh) (by omega))) rfl (fun _ _ => ?_); refine G.v (rv_assign rfl) rfl (G.done (G.thenN ?_))
      refine G.seq (G.seq (G.region (G.v (rv_move rfl) rfl (G.v (rv_loadW 0 rfl rfl rfl) rfl (G.v (rv_move rfl) rfl (G.v (rv_move rfl) rfl ?_)))))); refine G.op (og_callV rfl rfl (fun w hh => sisPacking_any (r := r) (us := us) (l := cs) w (hdr.2.1 _ (by exact Rd.owned 6 rfl _ hh)) (by exact Rd.owned 5 rfl _ hh) (by exact Rd.owned 4 rfl _ hh) (by exact Rd.owned 3 rfl _ hh) (by exact Rd.owned 2 rfl _ hh) (by exact Subs.owned 1 rfl _ hh) (by omega) (by omega))) rfl (fun _ _ => ?_); refine G.v (rv_neqb rfl rfl) rfl (G.v (rv_move rfl) rfl ?_)
      all_goals (((with_reducible refine G.gP rfl rfl (fun hg => ?_) (fun hg => ?_)) <;> (try exact Bool.noConfusion hg) <;> (try (exfalso; (have hq := of_decide_eq_false hg; omega))) <;> (first | (refine G.gY rfl rfl ?_; refine G.v (rv_move rfl) rfl ?_) | refine G.gN rfl rfl rfl ?_)))
      all_goals ((first | (refine G.gY rfl rfl ?_; (refine G.v (rv_loadW 0 rfl rfl rfl) rfl ?_)) | refine G.gN rfl rfl rfl ?_))
      all_goals ((first | (refine G.gY rfl rfl ?_; refine G.v (rv_move rfl) rfl ?_) | refine G.gN rfl rfl rfl ?_))
      all_goals ((first | (refine G.gY rfl rfl ?_; refine G.op (og_callV rfl rfl (fun w hh => sbest_any (r := r) (us := us) w (hdr.2.1 _ (by exact Rd.owned 6 rfl _ hh)) (by exact Rd.owned 5 rfl _ hh) (by exact Rd.owned 4 rfl _ hh) (by exact Rd.owned 3 rfl _ hh) (by omega))) rfl (fun _ _ => ?_)) | refine G.gN rfl rfl rfl ?_))
      all_goals ((first | (refine G.gY rfl rfl ?_; refine G.v (rv_neq rfl rfl) rfl ?_) | refine G.gN rfl rfl rfl ?_))
      all_goals ((first | refine G.v (rv_pickT rfl rfl) rfl ?_ | refine G.v (rv_pickF rfl rfl) rfl ?_))
      all_goals
       refine G.done (G.thenN ?_); refine G.cond rfl (fun hc => ?_) (fun hc => ?_)
       · try exact Bool.noConfusion hc
         all_goals
          try replace hc := of_decide_eq_true hc
          try (exfalso; contradiction)
          all_goals
           refine G.seq (G.region (G.v (rv_assign rfl) rfl (G.done (G.thenN (G.ret (G.thenR ?_))))))
           (exfalso; (try simp only [decide_eq_true_eq, decide_eq_false_iff_not, not_true, ne_eq, decide_not] at *); (try omega); done)
       · try exact Bool.noConfusion hc
         all_goals
          try replace hc := of_decide_eq_false hc
          try (exfalso; contradiction)
          all_goals
           refine G.skip (G.thenN (G.seq (G.region (G.v (rv_move rfl) rfl (G.v (rv_not rfl) rfl (G.v (rv_move rfl) rfl ?_))))))
           all_goals (((with_reducible refine G.gP rfl rfl (fun hg => ?_) (fun hg => ?_)) <;> (try exact Bool.noConfusion hg) <;> (try (exfalso; (have hq := of_decide_eq_false hg; omega))) <;> (first | (refine G.gY rfl rfl ?_; refine G.v (rv_move rfl) rfl ?_) | refine G.gN rfl rfl rfl ?_)))
           all_goals (try (have hpt := pk_of hg; obtain ⟨b1, b2⟩ := bestall_facts (r := r) (us := us) hpt))
           all_goals ((first | (refine G.gY rfl rfl ?_; refine G.v (rv_len rfl (by exact Rd.owned 2 rfl)) rfl ?_) | refine G.gN rfl rfl rfl ?_))
           all_goals ((first | (refine G.gY rfl rfl ?_; refine G.v (rv_move rfl) rfl ?_) | refine G.gN rfl rfl rfl ?_))
           all_goals ((first | (refine G.gY rfl rfl ?_; refine G.v (rv_geq rfl rfl) rfl ?_) | refine G.gN rfl rfl rfl ?_))
           all_goals ((first | (refine G.gY rfl rfl ?_; refine G.v (rv_move rfl) rfl ?_) | refine G.gN rfl rfl rfl ?_))
           all_goals ((first | refine G.gU rfl rfl rfl ?_ | ((with_reducible refine G.gP rfl rfl (fun hg => ?_) (fun hg => ?_)) <;> (try exact Bool.noConfusion hg) <;> (try (exfalso; (have hq := of_decide_eq_false hg; omega))) <;> ((refine G.gY rfl rfl ?_; refine G.v (rv_move rfl) rfl ?_)))))
           all_goals ((first | (refine G.gY rfl rfl ?_; refine G.v (rv_len rfl (by exact Rd.owned 2 rfl)) rfl ?_) | refine G.gU rfl rfl rfl ?_))
           all_goals ((first | (refine G.gY rfl rfl ?_; (refine G.v (rv_loadW 0 rfl rfl rfl) rfl ?_)) | refine G.gU rfl rfl rfl ?_))
           all_goals ((first | (refine G.gY rfl rfl ?_; refine G.v (rv_move rfl) rfl ?_) | refine G.gU rfl rfl rfl ?_))
           all_goals ((first | (refine G.gY rfl rfl ?_; refine G.op (og_callV rfl rfl (fun w hh => lower_any (r := r) (us := us) w (hdr.2.1 _ (by exact Rd.owned 6 rfl _ hh)) (by exact Rd.owned 5 rfl _ hh) (by exact Rd.owned 4 rfl _ hh) (by exact Rd.owned 3 rfl _ hh) (by omega))) rfl (fun _ _ => ?_)) | refine G.gU rfl rfl rfl ?_))
           all_goals ((first | (refine G.gY rfl rfl ?_; refine G.v (rv_geq rfl rfl) rfl ?_) | refine G.gU rfl rfl rfl ?_))
           all_goals ((first | (refine G.gY rfl rfl ?_; (refine G.v (rv_pickT rfl rfl) rfl ?_)) | refine G.gN rfl rfl rfl ?_))
           all_goals ((first | refine G.v (rv_pickT rfl rfl) rfl ?_ | refine G.v (rv_pickF rfl rfl) rfl ?_))
           all_goals (refine G.v (rv_assign rfl) rfl ?_)
           all_goals
            refine G.done (G.thenN (G.ret ?_))
            first | exact G.retFV rfl rfl rfl | exact G.retFV rfl rfl (by (congr 1; exact decide_eq_true (by omega)))
end Go.Proofs.YtibkggjbkgdnkaaGreat
