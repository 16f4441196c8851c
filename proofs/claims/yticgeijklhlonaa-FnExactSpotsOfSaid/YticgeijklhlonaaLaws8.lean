/-
  The law on spots: the program's are the reference's.
-/
import Derived.Test.YticgeijklhlonaaSpots2
import Derived.Test.YticgeijklhlonaaMarks
namespace Go.Proofs.Yticgeijklhlonaa
open Go.RowKit
attribute [local irreducible] Go.wpList Go.Code.wp Go.Exit.then Go.Exit.inBlock Go.bodyPost Go.Calls pE pB G RunsV FnV Fn FnM
set_option maxRecDepth 100000
set_option maxHeartbeats 2000000
theorem fnExactSpotsOf_any (p : PalletM) {v : Value} {l : List BoxM} {w : World} (h : Rd w v 4 (l.map BoxM.cells)) : FnV Try.prog 15 [p.val, v] w (.bool true) := by
  have hct : cntG cntBoxM l = 4 * l.length := cnt_const (fun _ => rfl) l
  have hlt := spots_le p l
  have hst : cntG cntSpotM (spotsM p l) = 4 * (spotsM p l).length := cnt_const (fun _ => rfl) _
  refine FnV.of (n := 77) Try.func15 rfl rfl ?_
  refine G.seq ?_
  refine G.region ?_
  refine G.op (og_box rfl rfl) rfl (fun bk2 _ => ?_)
  refine G.v (rv_assign rfl) rfl ?_
  refine G.done ?_
  refine G.thenN ?_
  refine G.seq ?_
  refine G.region ?_
  refine G.v (rv_assign rfl) rfl ?_
  refine G.done ?_
  refine G.thenN ?_
  refine G.seq ?_
  refine G.region ?_
  refine G.v (rv_move rfl) rfl ?_
  refine G.v (rv_move rfl) rfl ?_
  refine G.op (og_callV rfl rfl (fun w hh => szBoxS_any _ w (by exact Rd.stays (by assumption) _ hh) (by (try simp only [szM] at *); omega) (by (try simp only [szM] at *); omega))) rfl (fun _ _ => ?_)
  refine G.v (rv_assign rfl) rfl ?_
  refine G.done ?_
  refine G.thenN ?_
  refine G.seq ?_
  refine G.seq ?_
  refine G.region ?_
  refine G.v (rv_move rfl) rfl ?_
  refine G.v (rv_lss rfl rfl) rfl ?_
  refine G.done ?_
  refine G.thenN ?_
  refine G.cond rfl (fun hc => ?_) (fun hc => ?_)
  · try exact Bool.noConfusion hc
    all_goals
     try replace hc := of_decide_eq_true hc
     try (exfalso; contradiction)
     all_goals
      refine G.seq ?_
      refine G.region ?_
      refine G.v (rv_assign rfl) rfl ?_
      refine G.done ?_
      refine G.thenN ?_
      refine G.ret ?_
      refine G.thenR ?_
      exact G.retFV rfl rfl rfl
  · try exact Bool.noConfusion hc
    all_goals
     try replace hc := of_decide_eq_false hc
     try (exfalso; contradiction)
     all_goals
      refine G.skip ?_
      refine G.thenN ?_
      refine G.seq ?_
      refine G.region ?_
      (refine G.v (rv_loadW 0 rfl rfl rfl) rfl ?_)
      refine G.op (og_callV rfl rfl (fun w _ => toPallet_any _ w)) rfl (fun _ _ => ?_)
      refine G.v (rv_move rfl) rfl ?_
      (first | (refine G.op (og_callF1 rfl rfl (fun w hh => toBoxS_any w (by first | exact Rd.stays (by assumption) _ hh | exact Rd.owned 0 rfl _ hh | exact Rd.owned 1 rfl _ hh | exact Rd.owned 2 rfl _ hh | exact Rd.owned 3 rfl _ hh | exact Rd.owned 4 rfl _ hh | exact Rd.owned 5 rfl _ hh | exact Rd.owned 6 rfl _ hh | exact Rd.owned 7 rfl _ hh | exact Rd.owned 8 rfl _ hh | exact Rd.owned 9 rfl _ hh | exact Rd.owned 10 rfl _ hh | exact Rd.owned 11 rfl _ hh | exact Rd.owned 12 rfl _ hh | exact Rd.owned 13 rfl _ hh | exact Rd.owned 14 rfl _ hh | exact Rd.owned 15 rfl _ hh) (by (try simp only [szM] at *); omega))) rfl ?_; rintro v hov; try dsimp only) | (refine G.op (og_callF2 rfl rfl (fun w hh => toBoxS_any w (by first | exact Rd.stays (by assumption) _ hh | exact Rd.owned 0 rfl _ hh | exact Rd.owned 1 rfl _ hh | exact Rd.owned 2 rfl _ hh | exact Rd.owned 3 rfl _ hh | exact Rd.owned 4 rfl _ hh | exact Rd.owned 5 rfl _ hh | exact Rd.owned 6 rfl _ hh | exact Rd.owned 7 rfl _ hh | exact Rd.owned 8 rfl _ hh | exact Rd.owned 9 rfl _ hh | exact Rd.owned 10 rfl _ hh | exact Rd.owned 11 rfl _ hh | exact Rd.owned 12 rfl _ hh | exact Rd.owned 13 rfl _ hh | exact Rd.owned 14 rfl _ hh | exact Rd.owned 15 rfl _ hh) (by (try simp only [szM] at *); omega))) rfl ?_; rintro v hov; try dsimp only) | (refine G.op (og_callF3 rfl rfl (fun w hh => toBoxS_any w (by first | exact Rd.stays (by assumption) _ hh | exact Rd.owned 0 rfl _ hh | exact Rd.owned 1 rfl _ hh | exact Rd.owned 2 rfl _ hh | exact Rd.owned 3 rfl _ hh | exact Rd.owned 4 rfl _ hh | exact Rd.owned 5 rfl _ hh | exact Rd.owned 6 rfl _ hh | exact Rd.owned 7 rfl _ hh | exact Rd.owned 8 rfl _ hh | exact Rd.owned 9 rfl _ hh | exact Rd.owned 10 rfl _ hh | exact Rd.owned 11 rfl _ hh | exact Rd.owned 12 rfl _ hh | exact Rd.owned 13 rfl _ hh | exact Rd.owned 14 rfl _ hh | exact Rd.owned 15 rfl _ hh) (by (try simp only [szM] at *); omega))) rfl ?_; rintro v hov; try dsimp only) | (refine G.op (og_callF0 rfl rfl (fun w hh => toBoxS_any w (by first | exact Rd.stays (by assumption) _ hh | exact Rd.owned 0 rfl _ hh | exact Rd.owned 1 rfl _ hh | exact Rd.owned 2 rfl _ hh | exact Rd.owned 3 rfl _ hh | exact Rd.owned 4 rfl _ hh | exact Rd.owned 5 rfl _ hh | exact Rd.owned 6 rfl _ hh | exact Rd.owned 7 rfl _ hh | exact Rd.owned 8 rfl _ hh | exact Rd.owned 9 rfl _ hh | exact Rd.owned 10 rfl _ hh | exact Rd.owned 11 rfl _ hh | exact Rd.owned 12 rfl _ hh | exact Rd.owned 13 rfl _ hh | exact Rd.owned 14 rfl _ hh | exact Rd.owned 15 rfl _ hh) (by (try simp only [szM] at *); omega))) rfl ?_; rintro v hov; try dsimp only) | (refine G.op (og_callF rfl rfl (fun w hh => toBoxS_any w (by first | exact Rd.stays (by assumption) _ hh | exact Rd.owned 0 rfl _ hh | exact Rd.owned 1 rfl _ hh | exact Rd.owned 2 rfl _ hh | exact Rd.owned 3 rfl _ hh | exact Rd.owned 4 rfl _ hh | exact Rd.owned 5 rfl _ hh | exact Rd.owned 6 rfl _ hh | exact Rd.owned 7 rfl _ hh | exact Rd.owned 8 rfl _ hh | exact Rd.owned 9 rfl _ hh | exact Rd.owned 10 rfl _ hh | exact Rd.owned 11 rfl _ hh | exact Rd.owned 12 rfl _ hh | exact Rd.owned 13 rfl _ hh | exact Rd.owned 14 rfl _ hh | exact Rd.owned 15 rfl _ hh) (by (try simp only [szM] at *); omega))) rfl ?_; rintro v hov; try dsimp only))
      (refine G.op (og_callF1 rfl rfl (fun w hh => specSpotsOf_any _ w (by exact Rd.owned 0 rfl _ hh) (by (try simp only [szM] at *); omega))) rfl ?_; rintro vu hvu; try dsimp only)
      refine G.v (rv_assign rfl) rfl ?_
      refine G.done ?_
      refine G.thenN ?_
      refine G.seq ?_
      refine G.region ?_
      refine G.v (rv_move rfl) rfl ?_
      (first | (refine G.op (og_callF1 rfl rfl (fun w hh => toBoxS_any w (by first | exact Rd.stays (by assumption) _ hh | exact Rd.owned 0 rfl _ hh | exact Rd.owned 1 rfl _ hh | exact Rd.owned 2 rfl _ hh | exact Rd.owned 3 rfl _ hh | exact Rd.owned 4 rfl _ hh | exact Rd.owned 5 rfl _ hh | exact Rd.owned 6 rfl _ hh | exact Rd.owned 7 rfl _ hh | exact Rd.owned 8 rfl _ hh | exact Rd.owned 9 rfl _ hh | exact Rd.owned 10 rfl _ hh | exact Rd.owned 11 rfl _ hh | exact Rd.owned 12 rfl _ hh | exact Rd.owned 13 rfl _ hh | exact Rd.owned 14 rfl _ hh | exact Rd.owned 15 rfl _ hh) (by (try simp only [szM] at *); omega))) rfl ?_; rintro xv hxo; try dsimp only) | (refine G.op (og_callF2 rfl rfl (fun w hh => toBoxS_any w (by first | exact Rd.stays (by assumption) _ hh | exact Rd.owned 0 rfl _ hh | exact Rd.owned 1 rfl _ hh | exact Rd.owned 2 rfl _ hh | exact Rd.owned 3 rfl _ hh | exact Rd.owned 4 rfl _ hh | exact Rd.owned 5 rfl _ hh | exact Rd.owned 6 rfl _ hh | exact Rd.owned 7 rfl _ hh | exact Rd.owned 8 rfl _ hh | exact Rd.owned 9 rfl _ hh | exact Rd.owned 10 rfl _ hh | exact Rd.owned 11 rfl _ hh | exact Rd.owned 12 rfl _ hh | exact Rd.owned 13 rfl _ hh | exact Rd.owned 14 rfl _ hh | exact Rd.owned 15 rfl _ hh) (by (try simp only [szM] at *); omega))) rfl ?_; rintro xv hxo; try dsimp only) | (refine G.op (og_callF3 rfl rfl (fun w hh => toBoxS_any w (by first | exact Rd.stays (by assumption) _ hh | exact Rd.owned 0 rfl _ hh | exact Rd.owned 1 rfl _ hh | exact Rd.owned 2 rfl _ hh | exact Rd.owned 3 rfl _ hh | exact Rd.owned 4 rfl _ hh | exact Rd.owned 5 rfl _ hh | exact Rd.owned 6 rfl _ hh | exact Rd.owned 7 rfl _ hh | exact Rd.owned 8 rfl _ hh | exact Rd.owned 9 rfl _ hh | exact Rd.owned 10 rfl _ hh | exact Rd.owned 11 rfl _ hh | exact Rd.owned 12 rfl _ hh | exact Rd.owned 13 rfl _ hh | exact Rd.owned 14 rfl _ hh | exact Rd.owned 15 rfl _ hh) (by (try simp only [szM] at *); omega))) rfl ?_; rintro xv hxo; try dsimp only) | (refine G.op (og_callF0 rfl rfl (fun w hh => toBoxS_any w (by first | exact Rd.stays (by assumption) _ hh | exact Rd.owned 0 rfl _ hh | exact Rd.owned 1 rfl _ hh | exact Rd.owned 2 rfl _ hh | exact Rd.owned 3 rfl _ hh | exact Rd.owned 4 rfl _ hh | exact Rd.owned 5 rfl _ hh | exact Rd.owned 6 rfl _ hh | exact Rd.owned 7 rfl _ hh | exact Rd.owned 8 rfl _ hh | exact Rd.owned 9 rfl _ hh | exact Rd.owned 10 rfl _ hh | exact Rd.owned 11 rfl _ hh | exact Rd.owned 12 rfl _ hh | exact Rd.owned 13 rfl _ hh | exact Rd.owned 14 rfl _ hh | exact Rd.owned 15 rfl _ hh) (by (try simp only [szM] at *); omega))) rfl ?_; rintro xv hxo; try dsimp only) | (refine G.op (og_callF rfl rfl (fun w hh => toBoxS_any w (by first | exact Rd.stays (by assumption) _ hh | exact Rd.owned 0 rfl _ hh | exact Rd.owned 1 rfl _ hh | exact Rd.owned 2 rfl _ hh | exact Rd.owned 3 rfl _ hh | exact Rd.owned 4 rfl _ hh | exact Rd.owned 5 rfl _ hh | exact Rd.owned 6 rfl _ hh | exact Rd.owned 7 rfl _ hh | exact Rd.owned 8 rfl _ hh | exact Rd.owned 9 rfl _ hh | exact Rd.owned 10 rfl _ hh | exact Rd.owned 11 rfl _ hh | exact Rd.owned 12 rfl _ hh | exact Rd.owned 13 rfl _ hh | exact Rd.owned 14 rfl _ hh | exact Rd.owned 15 rfl _ hh) (by (try simp only [szM] at *); omega))) rfl ?_; rintro xv hxo; try dsimp only))
      refine G.v (rv_assign rfl) rfl ?_
      refine G.done ?_
      refine G.thenN ?_
      refine G.seq ?_
      refine G.region ?_
      (refine G.v (rv_loadW 3 rfl rfl rfl) rfl ?_)
      refine G.op (og_callV rfl rfl (fun w _ => toPallet_any _ w)) rfl (fun _ _ => ?_)
      refine G.v (rv_move rfl) rfl ?_
      (refine G.op (og_callF1 rfl rfl (fun w hh => implSpotsOf_any p w (by exact Rd.owned 0 rfl _ hh) (by (try simp only [szM] at *); omega))) rfl ?_; rintro vg hvg; try dsimp only)
      refine G.v (rv_assign rfl) rfl ?_
      refine G.done ?_
      refine G.thenN ?_
      refine G.seq ?_
      refine G.seq ?_
      refine G.region ?_
      refine G.v (rv_move rfl) rfl ?_
      refine G.v (rv_move rfl) rfl ?_
      refine G.op (og_callV rfl rfl (fun w hh => eqSpotS_any w (by exact Rd.owned 0 rfl _ hh) (by exact Rd.owned 2 rfl _ hh))) rfl (fun _ _ => ?_)
      refine G.v (rv_not rfl) rfl ?_
      refine G.done ?_
      refine G.thenN ?_
      refine G.cond rfl (fun hc => ?_) (fun hc => ?_)
      · try exact Bool.noConfusion hc
        all_goals
         try replace hc := of_decide_eq_true hc
         try (exfalso; contradiction)
         all_goals
          refine G.seq ?_
          refine G.region ?_
          refine G.v (rv_assign rfl) rfl ?_
          refine G.done ?_
          refine G.thenN ?_
          refine G.ret ?_
          refine G.thenR ?_
          (exfalso; simp_all; done)
      · try exact Bool.noConfusion hc
        all_goals
         try replace hc := of_decide_eq_false hc
         try (exfalso; contradiction)
         all_goals
          refine G.skip ?_
          refine G.thenN ?_
          refine G.seq ?_
          refine G.seq ?_
          refine G.region ?_
          refine G.v (rv_move rfl) rfl ?_
          refine G.v (rv_move rfl) rfl ?_
          (first | (refine G.op (og_callF1 rfl rfl (fun w hh => toBoxS_any w (by first | exact Rd.stays (by assumption) _ hh | exact Rd.owned 0 rfl _ hh | exact Rd.owned 1 rfl _ hh | exact Rd.owned 2 rfl _ hh | exact Rd.owned 3 rfl _ hh | exact Rd.owned 4 rfl _ hh | exact Rd.owned 5 rfl _ hh | exact Rd.owned 6 rfl _ hh | exact Rd.owned 7 rfl _ hh | exact Rd.owned 8 rfl _ hh | exact Rd.owned 9 rfl _ hh | exact Rd.owned 10 rfl _ hh | exact Rd.owned 11 rfl _ hh | exact Rd.owned 12 rfl _ hh | exact Rd.owned 13 rfl _ hh | exact Rd.owned 14 rfl _ hh | exact Rd.owned 15 rfl _ hh) (by (try simp only [szM] at *); omega))) rfl ?_; rintro v hov; try dsimp only) | (refine G.op (og_callF2 rfl rfl (fun w hh => toBoxS_any w (by first | exact Rd.stays (by assumption) _ hh | exact Rd.owned 0 rfl _ hh | exact Rd.owned 1 rfl _ hh | exact Rd.owned 2 rfl _ hh | exact Rd.owned 3 rfl _ hh | exact Rd.owned 4 rfl _ hh | exact Rd.owned 5 rfl _ hh | exact Rd.owned 6 rfl _ hh | exact Rd.owned 7 rfl _ hh | exact Rd.owned 8 rfl _ hh | exact Rd.owned 9 rfl _ hh | exact Rd.owned 10 rfl _ hh | exact Rd.owned 11 rfl _ hh | exact Rd.owned 12 rfl _ hh | exact Rd.owned 13 rfl _ hh | exact Rd.owned 14 rfl _ hh | exact Rd.owned 15 rfl _ hh) (by (try simp only [szM] at *); omega))) rfl ?_; rintro v hov; try dsimp only) | (refine G.op (og_callF3 rfl rfl (fun w hh => toBoxS_any w (by first | exact Rd.stays (by assumption) _ hh | exact Rd.owned 0 rfl _ hh | exact Rd.owned 1 rfl _ hh | exact Rd.owned 2 rfl _ hh | exact Rd.owned 3 rfl _ hh | exact Rd.owned 4 rfl _ hh | exact Rd.owned 5 rfl _ hh | exact Rd.owned 6 rfl _ hh | exact Rd.owned 7 rfl _ hh | exact Rd.owned 8 rfl _ hh | exact Rd.owned 9 rfl _ hh | exact Rd.owned 10 rfl _ hh | exact Rd.owned 11 rfl _ hh | exact Rd.owned 12 rfl _ hh | exact Rd.owned 13 rfl _ hh | exact Rd.owned 14 rfl _ hh | exact Rd.owned 15 rfl _ hh) (by (try simp only [szM] at *); omega))) rfl ?_; rintro v hov; try dsimp only) | (refine G.op (og_callF0 rfl rfl (fun w hh => toBoxS_any w (by first | exact Rd.stays (by assumption) _ hh | exact Rd.owned 0 rfl _ hh | exact Rd.owned 1 rfl _ hh | exact Rd.owned 2 rfl _ hh | exact Rd.owned 3 rfl _ hh | exact Rd.owned 4 rfl _ hh | exact Rd.owned 5 rfl _ hh | exact Rd.owned 6 rfl _ hh | exact Rd.owned 7 rfl _ hh | exact Rd.owned 8 rfl _ hh | exact Rd.owned 9 rfl _ hh | exact Rd.owned 10 rfl _ hh | exact Rd.owned 11 rfl _ hh | exact Rd.owned 12 rfl _ hh | exact Rd.owned 13 rfl _ hh | exact Rd.owned 14 rfl _ hh | exact Rd.owned 15 rfl _ hh) (by (try simp only [szM] at *); omega))) rfl ?_; rintro v hov; try dsimp only) | (refine G.op (og_callF rfl rfl (fun w hh => toBoxS_any w (by first | exact Rd.stays (by assumption) _ hh | exact Rd.owned 0 rfl _ hh | exact Rd.owned 1 rfl _ hh | exact Rd.owned 2 rfl _ hh | exact Rd.owned 3 rfl _ hh | exact Rd.owned 4 rfl _ hh | exact Rd.owned 5 rfl _ hh | exact Rd.owned 6 rfl _ hh | exact Rd.owned 7 rfl _ hh | exact Rd.owned 8 rfl _ hh | exact Rd.owned 9 rfl _ hh | exact Rd.owned 10 rfl _ hh | exact Rd.owned 11 rfl _ hh | exact Rd.owned 12 rfl _ hh | exact Rd.owned 13 rfl _ hh | exact Rd.owned 14 rfl _ hh | exact Rd.owned 15 rfl _ hh) (by (try simp only [szM] at *); omega))) rfl ?_; rintro v hov; try dsimp only))
          refine G.op (og_callV rfl rfl (fun w hh => eqBoxS_any w (by exact Rd.owned 2 rfl _ hh) (by exact Rd.owned 0 rfl _ hh))) rfl (fun _ _ => ?_)
          refine G.v (rv_not rfl) rfl ?_
          refine G.done ?_
          refine G.thenN ?_
          refine G.cond rfl (fun hc => ?_) (fun hc => ?_)
          · try exact Bool.noConfusion hc
            all_goals
             try replace hc := of_decide_eq_true hc
             try (exfalso; contradiction)
             all_goals
              refine G.seq ?_
              refine G.region ?_
              refine G.v (rv_assign rfl) rfl ?_
              refine G.done ?_
              refine G.thenN ?_
              refine G.ret ?_
              refine G.thenR ?_
              (exfalso; simp_all; done)
          · try exact Bool.noConfusion hc
            all_goals
             try replace hc := of_decide_eq_false hc
             try (exfalso; contradiction)
             all_goals
              refine G.skip ?_
              refine G.thenN ?_
              refine G.seq ?_
              refine G.region ?_
              refine G.v (rv_assign rfl) rfl ?_
              refine G.done ?_
              refine G.thenN ?_
              refine G.seq ?_
              refine G.region ?_
              refine G.v (rv_move rfl) rfl ?_
              refine G.v (rv_move rfl) rfl ?_
              ((refine G.frontR2 (xv) rfl ?_); refine G.op (og_callMM1 rfl rfl rfl (markBoxS_any (by omega) (by (try simp only [szM] at *); omega)).toF) rfl ?_; rintro ⟨⟩ _; try dsimp only)
              refine G.v (rv_assign rfl) rfl ?_
              refine G.done ?_
              refine G.thenN ?_
              refine G.seq ?_
              refine G.seq ?_
              refine G.region ?_
              refine G.v (rv_move rfl) rfl ?_
              refine G.v (rv_lss rfl rfl) rfl ?_
              refine G.v (rv_move rfl) rfl ?_
              all_goals (((with_reducible refine G.gP rfl rfl (fun hg => ?_) (fun hg => ?_)) <;> (try exact Bool.noConfusion hg) <;> ((refine G.gY rfl rfl ?_; refine G.v (rv_move rfl) rfl ?_))))
              all_goals (((refine G.gY rfl rfl ?_; refine G.v (rv_move rfl) rfl ?_)))
              all_goals (((refine G.gY rfl rfl ?_; refine G.op (og_callV rfl rfl (fun w hh => eqSpotS_any w (by exact Rd.owned 2 rfl _ hh) (by exact Rd.owned 3 rfl _ hh))) rfl (fun _ _ => ?_))))
              all_goals (((refine G.gY rfl rfl ?_; refine G.v (rv_not rfl) rfl ?_)))
              all_goals ((refine G.v (rv_pickF rfl rfl) rfl ?_))
              all_goals
               refine G.done ?_
               refine G.thenN ?_
               refine G.cond rfl (fun hc => ?_) (fun hc => ?_)
               · try exact Bool.noConfusion hc
                 all_goals
                  try replace hc := of_decide_eq_true hc
                  try (exfalso; contradiction)
                  all_goals
                   refine G.seq ?_
                   refine G.region ?_
                   refine G.v (rv_assign rfl) rfl ?_
                   refine G.done ?_
                   refine G.thenN ?_
                   refine G.ret ?_
                   refine G.thenR ?_
                   (exfalso; simp_all; done)
               · try exact Bool.noConfusion hc
                 all_goals
                  try replace hc := of_decide_eq_false hc
                  try (exfalso; contradiction)
                  all_goals
                   refine G.skip ?_
                   refine G.thenN ?_
                   refine G.seq ?_
                   refine G.region ?_
                   refine G.v (rv_assign rfl) rfl ?_
                   refine G.done ?_
                   refine G.thenN ?_
                   refine G.seq ?_
                   refine G.region ?_
                   refine G.v (rv_move rfl) rfl ?_
                   refine G.v (rv_move rfl) rfl ?_
                   ((refine G.frontR2 (vg) rfl ?_); refine G.op (og_callMM1 rfl rfl rfl (markSpotS_any (by omega) (by (try simp only [szM] at *); omega)).toF) rfl ?_; rintro ⟨⟩ _; try dsimp only)
                   refine G.v (rv_assign rfl) rfl ?_
                   refine G.done ?_
                   refine G.thenN ?_
                   refine G.seq ?_
                   refine G.region ?_
                   refine G.v (rv_assign rfl) rfl ?_
                   refine G.done ?_
                   refine G.thenN ?_
                   refine G.seq ?_
                   refine G.region ?_
                   refine G.v (rv_move rfl) rfl ?_
                   refine G.v (rv_move rfl) rfl ?_
                   refine G.op (og_callV rfl rfl (fun w hh => heldSpotS_marked w (by exact Rd.owned 0 rfl _ hh) (by omega) (by (try simp only [szM] at *); omega))) rfl (fun _ _ => ?_)
                   refine G.v (rv_assign rfl) rfl ?_
                   refine G.done ?_
                   refine G.thenN ?_
                   refine G.seq ?_
                   refine G.seq ?_
                   refine G.region ?_
                   refine G.v (rv_move rfl) rfl ?_
                   refine G.v (rv_lss rfl rfl) rfl ?_
                   refine G.done ?_
                   refine G.thenN ?_
                   refine G.cond rfl (fun hc => ?_) (fun hc => ?_)
                   · try exact Bool.noConfusion hc
                     all_goals
                      try replace hc := of_decide_eq_true hc
                      try (exfalso; contradiction)
                      all_goals
                       refine G.seq ?_
                       refine G.region ?_
                       refine G.v (rv_assign rfl) rfl ?_
                       refine G.done ?_
                       refine G.thenN ?_
                       refine G.ret ?_
                       refine G.thenR ?_
                       exact G.retFV rfl rfl rfl
                   · try exact Bool.noConfusion hc
                     all_goals
                      try replace hc := of_decide_eq_false hc
                      try (exfalso; contradiction)
                      all_goals
                       refine G.skip ?_
                       refine G.thenN ?_
                       refine G.seq ?_
                       refine G.seq ?_
                       refine G.region ?_
                       refine G.v (rv_move rfl) rfl ?_
                       refine G.v (rv_move rfl) rfl ?_
                       refine G.v (rv_neq rfl rfl) rfl ?_
                       refine G.done ?_
                       refine G.thenN ?_
                       refine G.cond rfl (fun hc => ?_) (fun hc => ?_)
                       · try exact Bool.noConfusion hc
                         all_goals
                          try replace hc := of_decide_eq_true hc
                          try (exfalso; contradiction)
                          all_goals
                           refine G.seq ?_
                           refine G.region ?_
                           refine G.v (rv_assign rfl) rfl ?_
                           refine G.done ?_
                           refine G.thenN ?_
                           refine G.ret ?_
                           refine G.thenR ?_
                           exact G.retFV rfl rfl rfl
                       · try exact Bool.noConfusion hc
                         all_goals
                          try replace hc := of_decide_eq_false hc
                          try (exfalso; contradiction)
                          all_goals
                           refine G.skip ?_
                           refine G.thenN ?_
                           refine G.seq ?_
                           refine G.region ?_
                           (refine G.v (rv_loadW 5 rfl rfl rfl) rfl ?_)
                           refine G.op (og_callV rfl rfl (fun w _ => toPallet_any _ w)) rfl (fun _ _ => ?_)
                           refine G.v (rv_move rfl) rfl ?_
                           (first | (refine G.op (og_callF1 rfl rfl (fun w hh => toBoxS_any w (by first | exact Rd.stays (by assumption) _ hh | exact Rd.owned 0 rfl _ hh | exact Rd.owned 1 rfl _ hh | exact Rd.owned 2 rfl _ hh | exact Rd.owned 3 rfl _ hh | exact Rd.owned 4 rfl _ hh | exact Rd.owned 5 rfl _ hh | exact Rd.owned 6 rfl _ hh | exact Rd.owned 7 rfl _ hh | exact Rd.owned 8 rfl _ hh | exact Rd.owned 9 rfl _ hh | exact Rd.owned 10 rfl _ hh | exact Rd.owned 11 rfl _ hh | exact Rd.owned 12 rfl _ hh | exact Rd.owned 13 rfl _ hh | exact Rd.owned 14 rfl _ hh | exact Rd.owned 15 rfl _ hh) (by (try simp only [szM] at *); omega))) rfl ?_; rintro v hov; try dsimp only) | (refine G.op (og_callF2 rfl rfl (fun w hh => toBoxS_any w (by first | exact Rd.stays (by assumption) _ hh | exact Rd.owned 0 rfl _ hh | exact Rd.owned 1 rfl _ hh | exact Rd.owned 2 rfl _ hh | exact Rd.owned 3 rfl _ hh | exact Rd.owned 4 rfl _ hh | exact Rd.owned 5 rfl _ hh | exact Rd.owned 6 rfl _ hh | exact Rd.owned 7 rfl _ hh | exact Rd.owned 8 rfl _ hh | exact Rd.owned 9 rfl _ hh | exact Rd.owned 10 rfl _ hh | exact Rd.owned 11 rfl _ hh | exact Rd.owned 12 rfl _ hh | exact Rd.owned 13 rfl _ hh | exact Rd.owned 14 rfl _ hh | exact Rd.owned 15 rfl _ hh) (by (try simp only [szM] at *); omega))) rfl ?_; rintro v hov; try dsimp only) | (refine G.op (og_callF3 rfl rfl (fun w hh => toBoxS_any w (by first | exact Rd.stays (by assumption) _ hh | exact Rd.owned 0 rfl _ hh | exact Rd.owned 1 rfl _ hh | exact Rd.owned 2 rfl _ hh | exact Rd.owned 3 rfl _ hh | exact Rd.owned 4 rfl _ hh | exact Rd.owned 5 rfl _ hh | exact Rd.owned 6 rfl _ hh | exact Rd.owned 7 rfl _ hh | exact Rd.owned 8 rfl _ hh | exact Rd.owned 9 rfl _ hh | exact Rd.owned 10 rfl _ hh | exact Rd.owned 11 rfl _ hh | exact Rd.owned 12 rfl _ hh | exact Rd.owned 13 rfl _ hh | exact Rd.owned 14 rfl _ hh | exact Rd.owned 15 rfl _ hh) (by (try simp only [szM] at *); omega))) rfl ?_; rintro v hov; try dsimp only) | (refine G.op (og_callF0 rfl rfl (fun w hh => toBoxS_any w (by first | exact Rd.stays (by assumption) _ hh | exact Rd.owned 0 rfl _ hh | exact Rd.owned 1 rfl _ hh | exact Rd.owned 2 rfl _ hh | exact Rd.owned 3 rfl _ hh | exact Rd.owned 4 rfl _ hh | exact Rd.owned 5 rfl _ hh | exact Rd.owned 6 rfl _ hh | exact Rd.owned 7 rfl _ hh | exact Rd.owned 8 rfl _ hh | exact Rd.owned 9 rfl _ hh | exact Rd.owned 10 rfl _ hh | exact Rd.owned 11 rfl _ hh | exact Rd.owned 12 rfl _ hh | exact Rd.owned 13 rfl _ hh | exact Rd.owned 14 rfl _ hh | exact Rd.owned 15 rfl _ hh) (by (try simp only [szM] at *); omega))) rfl ?_; rintro v hov; try dsimp only) | (refine G.op (og_callF rfl rfl (fun w hh => toBoxS_any w (by first | exact Rd.stays (by assumption) _ hh | exact Rd.owned 0 rfl _ hh | exact Rd.owned 1 rfl _ hh | exact Rd.owned 2 rfl _ hh | exact Rd.owned 3 rfl _ hh | exact Rd.owned 4 rfl _ hh | exact Rd.owned 5 rfl _ hh | exact Rd.owned 6 rfl _ hh | exact Rd.owned 7 rfl _ hh | exact Rd.owned 8 rfl _ hh | exact Rd.owned 9 rfl _ hh | exact Rd.owned 10 rfl _ hh | exact Rd.owned 11 rfl _ hh | exact Rd.owned 12 rfl _ hh | exact Rd.owned 13 rfl _ hh | exact Rd.owned 14 rfl _ hh | exact Rd.owned 15 rfl _ hh) (by (try simp only [szM] at *); omega))) rfl ?_; rintro v hov; try dsimp only))
                           (refine G.op (og_callF1 rfl rfl (fun w hh => implSpotsOf_any p w (by exact Rd.owned 0 rfl _ hh) (by (try simp only [szM] at *); omega))) rfl ?_; rintro vh hvh; try dsimp only)
                           refine G.v (rv_assign rfl) rfl ?_
                           refine G.done ?_
                           refine G.thenN ?_
                           refine G.seq ?_
                           refine G.seq ?_
                           refine G.region ?_
                           refine G.v (rv_move rfl) rfl ?_
                           refine G.v (rv_move rfl) rfl ?_
                           refine G.op (og_callV rfl rfl (fun w hh => eqSpotS_any w (by exact Rd.owned 0 rfl _ hh) (by exact Rd.owned 5 rfl _ hh))) rfl (fun _ _ => ?_)
                           refine G.v (rv_not rfl) rfl ?_
                           refine G.done ?_
                           refine G.thenN ?_
                           refine G.cond rfl (fun hc => ?_) (fun hc => ?_)
                           · try exact Bool.noConfusion hc
                             all_goals
                              try replace hc := of_decide_eq_true hc
                              try (exfalso; contradiction)
                              all_goals
                               refine G.seq ?_
                               refine G.region ?_
                               refine G.v (rv_assign rfl) rfl ?_
                               refine G.done ?_
                               refine G.thenN ?_
                               refine G.ret ?_
                               refine G.thenR ?_
                               (exfalso; simp_all; done)
                           · try exact Bool.noConfusion hc
                             all_goals
                              try replace hc := of_decide_eq_false hc
                              try (exfalso; contradiction)
                              all_goals
                               refine G.skip ?_
                               refine G.thenN ?_
                               refine G.seq ?_
                               refine G.region ?_
                               refine G.v (rv_assign rfl) rfl ?_
                               refine G.done ?_
                               refine G.thenN ?_
                               refine G.seq ?_
                               refine G.region ?_
                               refine G.v (rv_move rfl) rfl ?_
                               refine G.v (rv_move rfl) rfl ?_
                               refine G.op (og_callV rfl rfl (fun w hh => heldSpotS_marked w (by exact Rd.owned 2 rfl _ hh) (by omega) (by (try simp only [szM] at *); omega))) rfl (fun _ _ => ?_)
                               refine G.v (rv_assign rfl) rfl ?_
                               refine G.done ?_
                               refine G.thenN ?_
                               refine G.seq ?_
                               refine G.seq ?_
                               refine G.region ?_
                               refine G.v (rv_move rfl) rfl ?_
                               refine G.v (rv_lss rfl rfl) rfl ?_
                               refine G.done ?_
                               refine G.thenN ?_
                               refine G.cond rfl (fun hc => ?_) (fun hc => ?_)
                               · try exact Bool.noConfusion hc
                                 all_goals
                                  try replace hc := of_decide_eq_true hc
                                  try (exfalso; contradiction)
                                  all_goals
                                   refine G.seq ?_
                                   refine G.region ?_
                                   refine G.v (rv_assign rfl) rfl ?_
                                   refine G.done ?_
                                   refine G.thenN ?_
                                   refine G.ret ?_
                                   refine G.thenR ?_
                                   exact G.retFV rfl rfl rfl
                               · try exact Bool.noConfusion hc
                                 all_goals
                                  try replace hc := of_decide_eq_false hc
                                  try (exfalso; contradiction)
                                  all_goals
                                   refine G.skip ?_
                                   refine G.thenN ?_
                                   refine G.seq ?_
                                   refine G.seq ?_
                                   refine G.region ?_
                                   refine G.v (rv_move rfl) rfl ?_
                                   refine G.v (rv_move rfl) rfl ?_
                                   refine G.v (rv_neq rfl rfl) rfl ?_
                                   refine G.done ?_
                                   refine G.thenN ?_
                                   refine G.cond rfl (fun hc => ?_) (fun hc => ?_)
                                   · try exact Bool.noConfusion hc
                                     all_goals
                                      try replace hc := of_decide_eq_true hc
                                      try (exfalso; contradiction)
                                      all_goals
                                       refine G.seq ?_
                                       refine G.region ?_
                                       refine G.v (rv_assign rfl) rfl ?_
                                       refine G.done ?_
                                       refine G.thenN ?_
                                       refine G.ret ?_
                                       refine G.thenR ?_
                                       exact G.retFV rfl rfl rfl
                                   · try exact Bool.noConfusion hc
                                     all_goals
                                      try replace hc := of_decide_eq_false hc
                                      try (exfalso; contradiction)
                                      all_goals
                                       refine G.skip ?_
                                       refine G.thenN ?_
                                       refine G.seq ?_
                                       refine G.region ?_
                                       refine G.v (rv_assign rfl) rfl ?_
                                       refine G.done ?_
                                       refine G.thenN ?_
                                       refine G.ret ?_
                                       exact G.retFV rfl rfl rfl
end Go.Proofs.Yticgeijklhlonaa
