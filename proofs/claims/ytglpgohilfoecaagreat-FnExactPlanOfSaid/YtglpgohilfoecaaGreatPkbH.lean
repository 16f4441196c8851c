/-
  Texts of this proof, one behind the other: PlanX.
-/
import Derived.Test.YtglpgohilfoecaaGreatPkbG
import Derived.Test.YtglpgohilfoecaaGreatPkbF
set_option linter.unusedVariables false
set_option linter.unusedSimpArgs false

/-
  The law of the plan of an order.
-/
namespace Go.Proofs.YtglpgohilfoecaaGreat
open Go.RowKit
attribute [local irreducible] Go.wpList Go.Code.wp Go.Exit.then Go.Exit.inBlock Go.bodyPost Go.Calls pE pB G RunsV FnV Fn FnM
set_option maxRecDepth 100000
set_option maxHeartbeats 4000000
theorem heldPlan_marked {cv sv : Value} {cs : List (CartonM × Value)} {ss : List SpotM} {k : Int} (w : World) (h : Rd w cv 3 ((markG mkCartonM cntCartonM k cs).map CartonM.cells)) (hs : Subs w CartonM.l (markG mkCartonM cntCartonM k cs)) (h3 : Rd w sv 4 ((markG mkSpotM cntSpotM (k + cntG cntCartonM cs) ss).map SpotM.cells)) (hk : 0 ≤ k) (hc0 : 0 ≤ cntG cntCartonM cs) (hs0 : 0 ≤ cntG cntSpotM ss) (hb : k + cntG cntCartonM cs + cntG cntSpotM ss ≤ 4611686018427387904) :
    FnV Tryz.prog 17 [.agg [cv, sv].toArray, .int .i64 k] w (.int .i64 (k + cntG cntCartonM cs + cntG cntSpotM ss)) := by
  refine FnV.of (n := 18) Tryz.func17 rfl rfl ?_; refine zaJ (fun bk2 _ => ?_); refine zcQ ?_; refine zaC ?_; refine G.op (og_callV rfl rfl (fun w hh => heldCartonS_marked (l := cs) w (Rd.stays h _ hh) (Subs.stays hs _ hh) zc zc)) rfl (fun _ _ => ?_); refine zcY ?_; refine zaI ?_; refine G.condD rfl (fun hc => ?_) (fun hc => ?_)
  exfalso; omega
  refine zbR ?_; refine zbZ ?_; refine zaK ?_; refine zaC ?_; refine G.op (og_callV rfl rfl (fun w hh => heldSpotS_marked (l := ss) w (Rd.stays h3 _ hh) zc zc)) rfl (fun _ _ => ?_); refine zcY ?_; refine zaI ?_; refine G.condD rfl (fun hc => ?_) (fun hc => ?_)
  exfalso; omega
  refine zbR ?_; refine za9 ?_
  exact G.retFV rfl rfl rfl
theorem fnExactPlanOf_any {pv tv iv : Value} {w : World} (r : ReqM) (hr : RqRd w r pv tv iv) :
    FnV Tryz.prog 3 [.agg (r.cells pv tv iv).toArray] w (.bool true) := by
  obtain ⟨h, h2, h3⟩ := hr
  have hcR := cntR_in (r := r)
  have hpl := planSpots_len r
  have hpc : cntG cntSpotM (planSpotsM r) = 4 * (planSpotsM r).length := cnt_const (cnt := cntSpotM) (m := 4) (fun _ => rfl) (planSpotsM r)
  refine FnV.of (n := 96) Tryz.func3 rfl rfl ?_; refine zaJ (fun bk1 _ => ?_); refine zaB ?_; refine zaG ?_; refine zaU ?_; refine zaC ?_; refine G.op (og_callV rfl rfl (fun w hh => szRequest_any (r := r) _ w (Rd.stays h _ hh) (Rd.stays h2 _ hh) (Rd.stays h3 _ hh) zc zc)) rfl (fun _ _ => ?_); refine zcY ?_; refine zaI ?_; refine G.condD rfl (fun hc => ?_) (fun hc => ?_); refine zbc ?_
  exact G.retFV rfl rfl rfl
  · refine G.skip ?_
    refine G.thenN ?_; refine zaU ?_; refine zdE ?_; rintro ⟨pvN, tvN, ivN⟩ ⟨hovN, hov2N, hov3N⟩; try dsimp only
    refine G.op (og_callF3 rfl rfl (fun w hh => splanOf_any (r := r) w zT zai zF)) rfl ?_; rintro ⟨⟨vo, os⟩, so⟩ ⟨hvo, hso, hos⟩; try dsimp only
    refine zbb (fun bk4 _ => ?_); refine G.op0 (og_st0 rfl rfl rfl rfl rfl (by repeat (first | rfl | refine one_cons zf ?_)) (.zero (.cons (.cons .nil)))) (fun _ _ => ?_); refine zba ?_; refine G.region (G.v (rv_loadW 7 rfl rfl rfl) rfl ?_); refine zdE ?_; rintro ⟨pv2, tv2, iv2⟩ ⟨hov2, hov22, hov32⟩; try dsimp only
    refine zbn (fun bk6 _ => ?_); refine G.op0 (og_st0 rfl rfl rfl rfl rfl (by repeat (first | rfl | refine one_cons (by first | rfl | assumption) ?_)) (.zero (.cons (.cons (.cons (.cons (.cons (.cons (.cons (.cons (.cons (.cons .nil)))))))))))) (fun _ _ => ?_); refine za1 ?_; refine zaU ?_; refine G.op (og_callF3 rfl rfl (fun w hh => planOf_any (r := r) w (by exact Rd.owned 3 rfl _ hh) zT zai)) rfl ?_; rintro ⟨⟨vg, gs⟩, sg⟩ ⟨hvg, hsg, hgs⟩; try dsimp only
    have hgt := cntCartonM_tot gs; have hgt2 := cartons_tot (cs := gs) hgs
    refine zbb (fun bk7 _ => ?_); refine G.op0 (og_st0 rfl rfl rfl rfl rfl (by repeat (first | rfl | refine one_cons zf ?_)) (.zero (.cons (.cons .nil)))) (fun _ _ => ?_); refine zba ?_; refine zaU ?_; refine G.v (rv_loadW 8 rfl rfl rfl) rfl (G.op (og_callV rfl rfl (fun w hh => eqPlan_any (cs := gs) (cs' := os) (ss := planSpotsM r) (ss' := planSpotsM r) w zT zav (by exact Rd.owned 3 rfl _ hh) (by exact Rd.owned 10 rfl _ hh) (by exact Subs.owned 9 rfl _ hh) (by exact Rd.owned 11 rfl _ hh))) rfl (fun _ _ => ?_)); refine zdA ?_
    (with_reducible refine G.gP rfl rfl (fun hg => ?_) (fun hg => ?_)) <;> (try exact Bool.noConfusion hg) <;> (first | (refine zbm ?_) | refine zaF ?_)
    all_goals ((first | (refine zbm ?_) | refine zaF ?_))
    all_goals ((first | (refine zaH ?_; refine G.v (rv_neqb rfl rfl) rfl ?_) | refine zaF ?_))
    all_goals ((first | refine za3 ?_ | refine za4 ?_))
    all_goals
     refine za1 ?_; refine G.cond rfl (fun hc => ?_) (fun hc => ?_)
     · all_goals
        try replace hc := of_decide_eq_true hc
        try (exfalso; contradiction)
        all_goals
         refine zbc ?_
         exfalso; simp_all; done
     · try exact Bool.noConfusion hc
       all_goals
        replace hc := of_decide_eq_false hc
        all_goals
         refine zbR ?_; refine G.seq (G.seq (G.drawL [3] ?_)); refine GE.q 0 rfl za rfl (qg_runs (rv_loadW 4 rfl rfl rfl)) rfl ?_; refine GE.ol 1 za rfl rfl (og_runs (rv_loadW 15 rfl rfl rfl)) rfl zd (fun _ _ => ?_); refine GE.ol 2 za rfl rfl (og_callF3 rfl rfl (fun w hh => toRequest_any (r := r) w (Rd.stays h _ hh) (Rd.stays h2 _ hh) (Rd.stays h3 _ hh) zM)) rfl zl ?_; rintro ⟨pv3, tv3, iv3⟩ ⟨hov3, hov23, hov33⟩; try dsimp only
         refine GE.t 3 za rfl rfl rfl (og_callV rfl rfl (fun w hh => eqRequest_any (r := r) (s := r) w (by exact Rd.owned 10 rfl _ hh) (by exact Rd.owned 9 rfl _ hh) (by exact Rd.owned 8 rfl _ hh) zT zai zF)) rfl (fun _ _ => ?_); refine GE.ol 4 za rfl rfl (og_runs (rv_not rfl)) rfl zl (fun _ _ => ?_); refine zbj ?_; refine G.cond rfl (fun hc => ?_) (fun hc => ?_)
         · all_goals
            all_goals
             refine zbc ?_
             exfalso; simp_all; done
         · all_goals
            all_goals
             refine zbR ?_; refine zaG ?_; refine zbZ ?_; refine G.v (rv_loadW 7 rfl rfl rfl) rfl ?_; refine zaC ?_
             (refine G.frontR10 (pv2) rfl ?_); (refine G.frontR10 (tv2) rfl ?_); (refine G.frontR10 (iv2) rfl ?_); refine G.op (og_callMM3 rfl rfl rfl (markRequest_any (r := r) zc zM).toF) rfl ?_; rintro ⟨⟩ _; try dsimp only
             refine zcY ?_; refine G.v (rv_lss rfl rfl) rfl ?_; refine zaC ?_
             all_goals (((with_reducible refine G.gP rfl rfl (fun hg => ?_) (fun hg => ?_)) <;> (try exact Bool.noConfusion hg) <;> ((refine zaH ?_; (refine G.v (rv_loadW 6 rfl rfl rfl) rfl ?_)))))
             all_goals (((refine zaH ?_; (refine G.v (rv_loadW 11 rfl rfl rfl) rfl ?_))))
             all_goals (((refine zaH ?_; refine G.op (og_callV rfl rfl (fun w hh => eqPlan_any (cs := gs) (cs' := os) (ss := planSpotsM r) (ss' := planSpotsM r) w (by exact Rd.owned 8 rfl _ hh) (by exact Subs.owned 7 rfl _ hh) (by exact Rd.owned 9 rfl _ hh) (by exact Rd.owned 13 rfl _ hh) (by exact Subs.owned 12 rfl _ hh) (by exact Rd.owned 14 rfl _ hh))) rfl (fun _ _ => ?_))))
             all_goals (((refine zcu ?_)))
             all_goals ((refine za4 ?_))
             all_goals (refine zaC ?_)
             all_goals (((with_reducible refine G.gP rfl rfl (fun hg => ?_) (fun hg => ?_)) <;> (try exact Bool.noConfusion hg) <;> (first | (refine zbm ?_) | refine zaF ?_)))
             all_goals ((first | (refine zbm ?_) | refine zaF ?_))
             all_goals ((first | (refine zaH ?_; refine G.v (rv_neqb rfl rfl) rfl ?_) | refine zaF ?_))
             all_goals ((first | refine za3 ?_ | refine za4 ?_))
             all_goals
              refine za1 ?_; refine G.cond rfl (fun hc => ?_) (fun hc => ?_)
              · all_goals
                 try replace hc := of_decide_eq_true hc
                 try (exfalso; contradiction)
                 all_goals
                  refine zbc ?_
                  exfalso; simp_all; done
              · try exact Bool.noConfusion hc
                all_goals
                 replace hc := of_decide_eq_false hc
                 all_goals
                  refine zbR ?_; refine zaG ?_; refine zbZ ?_; refine G.v (rv_loadW 6 rfl rfl rfl) rfl ?_; refine zaC ?_
                  (refine G.frontR8 (vg) rfl ?_); (refine G.frontG8 (gs.map (sub CartonM.l)) rfl ?_); (refine G.frontR9 (sg) rfl ?_); refine G.op (og_callMM3 rfl rfl rfl (markPlan_any zc zc hsg hvg).toF) rfl ?_; rintro ⟨⟩ _; try dsimp only
                  refine zaB ?_; refine zaG ?_; refine zbZ ?_; refine G.v (rv_loadW 9 rfl rfl rfl) rfl ?_; refine zaC ?_; refine G.op (og_callV rfl rfl (fun w hh => heldPlan_marked (cs := gs) (ss := planSpotsM r) w zT zav zF zc zc zc zc)) rfl (fun _ _ => ?_); refine zcY ?_; refine zaI ?_; refine G.cond rfl (fun hc => ?_) (fun hc => ?_)
                  exact Bool.noConfusion hc
                  · all_goals
                     replace hc := of_decide_eq_false hc
                     all_goals
                      refine zbR ?_; refine zcT ?_; refine zci ?_; refine G.cond rfl (fun hc => ?_) (fun hc => ?_)
                      · all_goals
                         replace hc := of_decide_eq_true hc
                         exfalso; contradiction
                      · all_goals
                         replace hc := of_decide_eq_false hc
                         all_goals
                          refine zbR ?_; refine zbZ ?_; refine G.v (rv_loadW 18 rfl rfl rfl) rfl ?_; refine zdE ?_; rintro ⟨pv4, tv4, iv4⟩ ⟨hov4, hov24, hov34⟩; try dsimp only
                          refine G.op (og_callF3 rfl rfl (fun w hh => planOf_any (r := r) w zT zai zF)) rfl ?_; rintro ⟨⟨vh, js⟩, sj⟩ ⟨hvh, hsj, hjs⟩; try dsimp only
                          refine zbb (fun bk12 _ => ?_); refine G.op0 (og_st0 rfl rfl rfl rfl rfl (by repeat (first | rfl | refine one_cons zf ?_)) (.zero (.cons (.cons .nil)))) (fun _ _ => ?_); refine zba ?_; refine zaU ?_; refine G.v (rv_loadW 18 rfl rfl rfl) rfl (G.op (og_callV rfl rfl (fun w hh => eqPlan_any (cs := js) (cs' := os) (ss := planSpotsM r) (ss' := planSpotsM r) w zT zav (by exact Rd.owned 3 rfl _ hh) (by exact Rd.owned 20 rfl _ hh) (by exact Subs.owned 19 rfl _ hh) (by exact Rd.owned 21 rfl _ hh))) rfl (fun _ _ => ?_)); refine zdA ?_
                          all_goals (((with_reducible refine G.gP rfl rfl (fun hg => ?_) (fun hg => ?_)) <;> (try exact Bool.noConfusion hg) <;> (first | (refine zbm ?_) | refine zaF ?_)))
                          all_goals ((first | (refine zbm ?_) | refine zaF ?_))
                          all_goals ((first | (refine zaH ?_; refine G.v (rv_neqb rfl rfl) rfl ?_) | refine zaF ?_))
                          all_goals ((first | refine za3 ?_ | refine za4 ?_))
                          all_goals
                           refine za1 ?_; refine G.cond rfl (fun hc => ?_) (fun hc => ?_)
                           · all_goals
                              try replace hc := of_decide_eq_true hc
                              try (exfalso; contradiction)
                              all_goals
                               refine zbc ?_
                               exfalso; simp_all; done
                           · try exact Bool.noConfusion hc
                             all_goals
                              replace hc := of_decide_eq_false hc
                              all_goals
                               refine zbR ?_; refine zaG ?_; refine zbZ ?_; refine G.v (rv_loadW 16 rfl rfl rfl) rfl ?_; refine zaC ?_; refine G.op (og_callV rfl rfl (fun w hh => heldPlan_marked (cs := gs) (ss := planSpotsM r) w (by exact Rd.owned 9 rfl _ hh) (by exact Subs.owned 8 rfl _ hh) (by exact Rd.owned 7 rfl _ hh) zc zc zc zc)) rfl (fun _ _ => ?_); refine zcY ?_; refine zaI ?_; refine G.cond rfl (fun hc => ?_) (fun hc => ?_)
                               exact Bool.noConfusion hc
                               · all_goals
                                  replace hc := of_decide_eq_false hc
                                  all_goals
                                   refine zbR ?_; refine zcT ?_; refine zci ?_; refine G.cond rfl (fun hc => ?_) (fun hc => ?_)
                                   · all_goals
                                      replace hc := of_decide_eq_true hc
                                      exfalso; contradiction
                                   · all_goals
                                      replace hc := of_decide_eq_false hc
                                      all_goals
                                       refine zbR ?_; refine zcr ?_
                                       exact G.retFV rfl rfl rfl
end Go.Proofs.YtglpgohilfoecaaGreat
