/-
  Texts of this proof, one behind the other: RatioW.
-/
import Derived.Test.YtibkggjbkgdnkaaGreatPkvL
import Derived.Test.YtibkggjbkgdnkaaGreatPkvJ

/-
  The law of the ratio.
-/
namespace Go.Proofs.YtibkggjbkgdnkaaGreat
open Go.RowKit
theorem best_in8 (r : ReqM) (us : List Int) : bestM r us ≤ 8 ∧ -1 ≤ bestM r us := by
  rw [bestM]
  split
  · rename_i h
    have := few_le (p := roomM r) (add := fun l u => l ++ [u]) (one := fun u => [u]) (thereM r us) []
    rw [fewU]; simp only [List.length_nil] at this; omega
  · omega
attribute [local irreducible] Go.wpList Go.Code.wp Go.Exit.then Go.Exit.inBlock Go.bodyPost Go.Calls pE pB G RunsV FnV Fn FnM
set_option maxRecDepth 100000
set_option maxHeartbeats 4000000
theorem fnRatio_any {v : Value} {l : List Int} {w : World} (h : Rd w v 1 (l.map bcell)) : FnV Tryz.prog 17 [v] w (.bool true) := by
  refine FnV.of (n := 117) Tryz.func17 rfl rfl ?_; refine G.seq (G.region (G.v (rv_assign rfl) rfl (G.done (G.thenN (G.seq (G.seq (G.region (G.v (rv_move rfl) rfl ?_)))))))); refine G.op (og_callV rfl rfl (fun w hh => big_any w (by exact Rd.stays (by assumption) _ hh))) rfl (fun _ _ => ?_); refine G.done (G.thenN ?_); refine G.cond rfl (fun hc => ?_) (fun hc => ?_)
  · try exact Bool.noConfusion hc
    all_goals
     try replace hc := of_decide_eq_true hc
     try (exfalso; contradiction)
     all_goals
      refine G.seq (G.region (G.v (rv_assign rfl) rfl (G.done (G.thenN (G.ret (G.thenR ?_))))))
      exact G.retFV rfl rfl rfl
  · try exact Bool.noConfusion hc
    all_goals
     try replace hc := of_decide_eq_false hc
     try (exfalso; contradiction)
     all_goals
      refine G.skip (G.thenN (G.seq (G.region (G.v (rv_move rfl) rfl ?_))))
      (refine G.op (og_callF4 rfl rfl (fun w hh => dDrawFirstFit_any w (by exact Rd.stays (by assumption) _ hh))) rfl ?_; rintro ⟨⟨⟨r, pv, tv, iv⟩, pv0, es0⟩, lv, us⟩ ⟨hdr, holv, hul⟩; try dsimp only)
      refine G.v (rv_move rfl) rfl ?_
      have hopv := hdr.1.1; have hotv := hdr.1.2.1; have hoiv := hdr.1.2.2; dsimp only at hopv hotv hoiv hul
      have hb8 := best_in8 r us
      refine G.v (rv_extract rfl rfl) rfl (G.v (rv_extract rfl rfl) rfl ?_); refine G.op (og_alloc) rfl (fun bk3 _ => ?_); refine G.op0 (og_st0 rfl rfl rfl rfl rfl (by repeat (first | rfl | refine one_cons (by first | rfl | assumption) ?_)) (.zero (.cons (.cons (.cons (.cons (.cons (.cons (.cons (.cons (.cons (.cons .nil)))))))))))) (fun _ _ => ?_); refine G.v (rv_assign rfl) rfl (G.done (G.thenN (G.seq (G.region (G.v (rv_loadW 0 rfl rfl rfl) rfl (G.v (rv_move rfl) rfl ?_)))))); refine G.op (og_callV rfl rfl (fun w hh => best_any (r := r) (us := us) w (hdr.2.1 _ (by exact Rd.owned 4 rfl _ hh)) (by exact Rd.owned 3 rfl _ hh) (by exact Rd.owned 2 rfl _ hh) (by exact Rd.owned 1 rfl _ hh) (by omega))) rfl (fun _ _ => ?_); refine G.v (rv_assign rfl) rfl (G.done (G.thenN (G.seq (G.seq (G.region (G.v (rv_move rfl) rfl (G.v (rv_loadW 0 rfl rfl rfl) rfl (G.v (rv_move rfl) rfl ?_)))))))); refine G.op (og_callV rfl rfl (fun w hh => sbest_any (r := r) (us := us) w (hdr.2.1 _ (by exact Rd.owned 4 rfl _ hh)) (by exact Rd.owned 3 rfl _ hh) (by exact Rd.owned 2 rfl _ hh) (by exact Rd.owned 1 rfl _ hh) (by omega))) rfl (fun _ _ => ?_); refine G.v (rv_neq rfl rfl) rfl (G.done (G.thenN ?_)); refine G.cond rfl (fun hc => ?_) (fun hc => ?_)
      · try exact Bool.noConfusion hc
        all_goals
         try replace hc := of_decide_eq_true hc
         try (exfalso; contradiction)
         all_goals
          refine G.seq (G.region (G.v (rv_assign rfl) rfl (G.done (G.thenN (G.ret (G.thenR ?_))))))
          exact G.retFV rfl rfl rfl
      · try exact Bool.noConfusion hc
        all_goals
         try replace hc := of_decide_eq_false hc
         try (exfalso; contradiction)
         all_goals
          refine G.skip (G.thenN (G.seq (G.seq (G.region (G.v (rv_move rfl) rfl (G.v (rv_lss rfl rfl) rfl (G.done (G.thenN ?_)))))))); refine G.cond rfl (fun hc => ?_) (fun hc => ?_)
          · try exact Bool.noConfusion hc
            all_goals
             try replace hc := of_decide_eq_true hc
             try (exfalso; contradiction)
             all_goals
              have hnone := ratio_none (r := r) (us := us) hc
              all_goals
               refine G.seq (G.region (G.v (rv_move rfl) rfl (G.v (rv_eql rfl rfl) rfl (G.v (rv_move rfl) rfl ?_))))
               all_goals (((with_reducible refine G.gP rfl rfl (fun hg => ?_) (fun hg => ?_)) <;> (try exact Bool.noConfusion hg) <;> (try (exfalso; (have hq := of_decide_eq_false hg; omega))) <;> (first | (refine G.gY rfl rfl ?_; (refine G.v (rv_loadW 0 rfl rfl rfl) rfl ?_)) | refine G.gN rfl rfl rfl ?_)))
               all_goals ((first | (refine G.gY rfl rfl ?_; refine G.v (rv_move rfl) rfl ?_) | refine G.gN rfl rfl rfl ?_))
               all_goals ((first | (refine G.gY rfl rfl ?_; (refine G.op (og_callF2 rfl rfl (fun w hh => firstFit_any (r := r) (us := us) w (hdr.2.1 _ (by exact Rd.owned 4 rfl _ hh)) (by exact Rd.owned 3 rfl _ hh) (by exact Rd.owned 2 rfl _ hh) (by exact Rd.owned 1 rfl _ hh) (by omega))) rfl ?_; rintro ⟨vp, ps⟩ ⟨hvp, hps⟩; try dsimp only)) | refine G.gN rfl rfl rfl ?_))
               all_goals (try (have ep : (ps.map gcell).length = (firstM r us).length := gl_len hps))
               all_goals ((first | (refine G.gY rfl rfl ?_; refine G.v (rv_len rfl (by exact Rd.owned 1 rfl)) rfl ?_) | refine G.gN rfl rfl rfl ?_))
               all_goals ((first | (refine G.gY rfl rfl ?_; refine G.v (rv_eql rfl rfl) rfl ?_) | refine G.gN rfl rfl rfl ?_))
               all_goals ((first | refine G.v (rv_pickT rfl rfl) rfl ?_ | refine G.v (rv_pickF rfl rfl) rfl ?_))
               all_goals (refine G.v (rv_assign rfl) rfl ?_)
               all_goals
                refine G.done (G.thenN (G.ret (G.thenR ?_)))
                first | exact G.retFV rfl rfl rfl | exact G.retFV rfl rfl (by (congr 1; exact decide_eq_true (by (simp only [decide_eq_true_eq, decide_eq_false_iff_not] at *; omega))))
          · try exact Bool.noConfusion hc
            all_goals
             try replace hc := of_decide_eq_false hc
             try (exfalso; contradiction)
             all_goals
              obtain ⟨hz, f1, f2, f3, f4, f5, f6⟩ := ratio_facts (r := r) (us := us) hc; simp only [mst] at f5 f6
              all_goals
               refine G.skip (G.thenN (G.seq (G.region (G.v (rv_loadW 0 rfl rfl rfl) rfl ?_)))); refine G.op (og_callV rfl rfl (fun w hh => masterOf_any (r := r) w (by exact Rd.owned 3 rfl _ hh))) rfl (fun _ _ => ?_); refine G.v (rv_move rfl) rfl (G.v (rv_extract rfl rfl) rfl (G.v (rv_extract rfl rfl) rfl ?_)); refine G.op (og_alloc) rfl (fun bk6 _ => ?_); refine G.op0 (og_st0 rfl rfl rfl rfl rfl rfl (.zero (.cons (.cons (.cons (.cons (.cons (.cons (.cons .nil))))))))) (fun _ _ => ?_); refine G.v (rv_assign rfl) rfl (G.done (G.thenN (G.seq (G.region (G.v (rv_loadW 1 rfl rfl rfl) rfl (G.v (rv_move rfl) rfl ?_))))))
               (refine G.op (og_callF2 rfl rfl (fun w hh => firstFit_any (r := r) (us := us) w (hdr.2.1 _ (by exact Rd.owned 5 rfl _ hh)) (by exact Rd.owned 4 rfl _ hh) (by exact Rd.owned 3 rfl _ hh) (by exact Rd.owned 2 rfl _ hh) (by omega))) rfl ?_; rintro ⟨vp, ps⟩ ⟨hvp, hps⟩; try dsimp only)
               have ep : (ps.map gcell).length = (firstM r us).length := gl_len hps; have ep2 := first_len48 r us
               refine G.v (rv_len rfl (by exact Rd.owned 1 rfl)) rfl ?_; refine G.v (rv_assign rfl) rfl (G.done (G.thenN (G.seq (G.region (G.v (rv_loadW 3 rfl rfl rfl) rfl (G.v (rv_move rfl) rfl ?_))))))
               (refine G.op (og_callF2 rfl rfl (fun w hh => nextFit_any (r := r) (us := us) w (hdr.2.1 _ (by exact Rd.owned 7 rfl _ hh)) (by exact Rd.owned 6 rfl _ hh) (by exact Rd.owned 5 rfl _ hh) (by exact Rd.owned 4 rfl _ hh) (by omega))) rfl ?_; rintro ⟨vo, os⟩ ⟨hvo, hos⟩; try dsimp only)
               have eo : (os.map gcell).length = (nextM r us).length := gl_len hos; have eo2 := next_len48 r us
               refine G.v (rv_len rfl (by exact Rd.owned 1 rfl)) rfl ?_; refine G.v (rv_assign rfl) rfl (G.done (G.thenN (G.seq ?_))); refine G.drawL [6] ?_; refine GE.q 0 rfl (by as_aux_lemma => kernel_rfl) rfl (qg_runs (rv_loadW 5 rfl rfl rfl)) rfl ?_; refine GE.q 1 rfl (by as_aux_lemma => kernel_rfl) rfl (qg_runs (rv_move rfl)) rfl ?_; refine GE.q 2 rfl (by as_aux_lemma => kernel_rfl) rfl (qg_call rfl rfl (fun w hh => gramOf_any (r := r) (us := us) w (hdr.2.1 _ (by exact Rd.owned 9 rfl _ hh)) (by exact Rd.owned 8 rfl _ hh) (by exact Rd.owned 7 rfl _ hh) (by exact Rd.owned 6 rfl _ hh) (by omega))) rfl ?_; refine GE.ol 3 (by as_aux_lemma => kernel_rfl) rfl rfl (og_runs (rv_field rfl)) rfl (fun _ _ h => by exact h) (fun _ _ => ?_); refine GE.ol 4 (by as_aux_lemma => kernel_rfl) rfl rfl (og_runs (rv_load1 4 rfl rfl rfl)) rfl (fun _ _ h => by exact h) (fun _ _ => ?_); refine GE.ol 5 (by as_aux_lemma => kernel_rfl) rfl rfl (og_runs (rv_leq rfl rfl)) rfl (fun _ _ h => by exact h) (fun _ _ => ?_); refine GE.t 6 (by as_aux_lemma => kernel_rfl) rfl rfl rfl (og_runs (rv_assign rfl)) rfl (fun _ _ => ?_); refine GE.done (by as_aux_lemma => kernel_rfl) ?_; refine G.thenN (G.seq ?_); refine G.drawL [11] ?_; refine GE.q 0 rfl (by as_aux_lemma => kernel_rfl) rfl (qg_runs (rv_loadW 5 rfl rfl rfl)) rfl ?_; refine GE.q 1 rfl (by as_aux_lemma => kernel_rfl) rfl (qg_runs (rv_move rfl)) rfl ?_
               refine GE.q 2 rfl (by as_aux_lemma => kernel_rfl) rfl (qg_call rfl rfl (fun w hh => volumeOf_any (r := r) (us := us) w (hdr.2.1 _ (by exact Rd.owned 9 rfl _ hh)) (by exact Rd.owned 8 rfl _ hh) (by exact Rd.owned 7 rfl _ hh) (by exact Rd.owned 6 rfl _ hh) (by omega))) rfl ?_; refine GE.q 3 rfl (by as_aux_lemma => kernel_rfl) rfl (qg_runs (rv_field rfl)) rfl ?_; refine GE.q 4 rfl (by as_aux_lemma => kernel_rfl) rfl (qg_runs (rv_load1 4 rfl rfl rfl)) rfl ?_; refine GE.q 5 rfl (by as_aux_lemma => kernel_rfl) rfl (qg_runs (rv_field rfl)) rfl ?_; refine GE.q 6 rfl (by as_aux_lemma => kernel_rfl) rfl (qg_runs (rv_load1 4 rfl rfl rfl)) rfl ?_; refine GE.ol 7 (by as_aux_lemma => kernel_rfl) rfl rfl (og_runs (rv_field rfl)) rfl (fun _ _ h => by exact h) (fun _ _ => ?_); refine GE.ol 8 (by as_aux_lemma => kernel_rfl) rfl rfl (og_runs (rv_load1 4 rfl rfl rfl)) rfl (fun _ _ h => by exact h) (fun _ _ => ?_); refine GE.ol 9 (by as_aux_lemma => kernel_rfl) rfl rfl (og_callV rfl rfl (fun w hh => volume_any (typeAt r r.master).1.w (typeAt r r.master).1.h (typeAt r r.master).1.d w)) rfl (fun _ _ h => by exact h) (fun _ _ => ?_); refine GE.ol 10 (by as_aux_lemma => kernel_rfl) rfl rfl (og_runs (rv_leq rfl rfl)) rfl (fun _ _ h => by exact h) (fun _ _ => ?_); refine GE.t 11 (by as_aux_lemma => kernel_rfl) rfl rfl rfl (og_runs (rv_assign rfl)) rfl (fun _ _ => ?_); refine GE.done (by as_aux_lemma => kernel_rfl) ?_; refine G.thenN (G.seq (G.seq (G.region ?_)))
               refine G.v (rv_move rfl) rfl (G.v (rv_move rfl) rfl ?_); refine G.v (rv_mulB rfl rfl (by omega) (by omega)) rfl ?_; refine G.v (rv_subB rfl rfl (by omega) (by omega)) rfl ?_; refine G.v (rv_gtr rfl rfl) rfl (G.v (rv_move rfl) rfl ?_)
               all_goals (((with_reducible refine G.gP rfl rfl (fun hg => ?_) (fun hg => ?_)) <;> (try exact Bool.noConfusion hg) <;> (try (exfalso; (have hq := of_decide_eq_true hg; omega); done)) <;> ((refine G.gY rfl rfl ?_; refine G.v (rv_move rfl) rfl ?_))))
               all_goals (((refine G.gY rfl rfl ?_; refine G.v (rv_move rfl) rfl ?_)))
               all_goals (((refine G.gY rfl rfl ?_; refine G.v (rv_mulB rfl rfl (by omega) (by omega)) rfl ?_)))
               all_goals (((refine G.gY rfl rfl ?_; (refine G.v (rv_subB rfl rfl (by omega) (by omega)) rfl ?_))))
               all_goals (((refine G.gY rfl rfl ?_; refine G.v (rv_gtr rfl rfl) rfl ?_)))
               all_goals ((refine G.v (rv_pickF rfl rfl) rfl ?_))
               all_goals (refine G.v (rv_move rfl) rfl ?_)
               all_goals (((with_reducible refine G.gP rfl rfl (fun hg => ?_) (fun hg => ?_)) <;> (try exact Bool.noConfusion hg) <;> (try (exfalso; (have hq := of_decide_eq_true hg; omega); done)) <;> ((refine G.gY rfl rfl ?_; refine G.v (rv_move rfl) rfl ?_))))
               all_goals (((refine G.gY rfl rfl ?_; refine G.v (rv_move rfl) rfl ?_)))
               all_goals (((refine G.gY rfl rfl ?_; refine G.v (rv_lss rfl rfl) rfl ?_)))
               all_goals ((refine G.v (rv_pickF rfl rfl) rfl ?_))
               all_goals (refine G.v (rv_move rfl) rfl ?_)
               all_goals (((with_reducible refine G.gP rfl rfl (fun hg => ?_) (fun hg => ?_)) <;> (try exact Bool.noConfusion hg) <;> (try (exfalso; (have hq := of_decide_eq_true hg; omega); done)) <;> ((refine G.gY rfl rfl ?_; refine G.v (rv_move rfl) rfl ?_))))
               all_goals (((refine G.gY rfl rfl ?_; refine G.v (rv_move rfl) rfl ?_)))
               all_goals (((refine G.gY rfl rfl ?_; refine G.v (rv_lss rfl rfl) rfl ?_)))
               all_goals ((refine G.v (rv_pickF rfl rfl) rfl ?_))
               all_goals
                refine G.done (G.thenN ?_); refine G.cond rfl (fun hc => ?_) (fun hc => ?_)
                · try exact Bool.noConfusion hc
                  all_goals
                   try replace hc := of_decide_eq_true hc
                   try (exfalso; omega)
                   all_goals
                    refine G.seq (G.region (G.v (rv_assign rfl) rfl (G.done (G.thenN (G.ret (G.thenR ?_))))))
                    exact G.retFV rfl rfl rfl
                · try exact Bool.noConfusion hc
                  all_goals
                   try replace hc := of_decide_eq_false hc
                   try (exfalso; contradiction)
                   all_goals
                    refine G.skip (G.thenN (G.seq (G.seq (G.region (G.v (rv_move rfl) rfl (G.v (rv_move rfl) rfl ?_))))))
                    all_goals (((with_reducible refine G.gP rfl rfl (fun hg => ?_) (fun hg => ?_)) <;> (try exact Bool.noConfusion hg) <;> (try (exfalso; (have hq := of_decide_eq_false hg; omega))) <;> (first | (refine G.gY rfl rfl ?_; refine G.v (rv_move rfl) rfl ?_) | refine G.gN rfl rfl rfl ?_)))
                    all_goals ((first | refine G.v (rv_pickT rfl rfl) rfl ?_ | refine G.v (rv_pickF rfl rfl) rfl ?_))
                    all_goals (refine G.v (rv_move rfl) rfl ?_)
                    all_goals (((with_reducible refine G.gP rfl rfl (fun hg => ?_) (fun hg => ?_)) <;> (try exact Bool.noConfusion hg) <;> (try (exfalso; (have hq := of_decide_eq_false hg; omega))) <;> (first | (refine G.gY rfl rfl ?_; refine G.v (rv_move rfl) rfl ?_) | refine G.gN rfl rfl rfl ?_)))
                    all_goals ((first | (refine G.gY rfl rfl ?_; refine G.v (rv_move rfl) rfl ?_) | refine G.gN rfl rfl rfl ?_))
                    all_goals ((first | (refine G.gY rfl rfl ?_; refine G.v (rv_mulB rfl rfl (by omega) (by omega)) rfl ?_) | refine G.gN rfl rfl rfl ?_))
                    all_goals ((first | (refine G.gY rfl rfl ?_; (refine G.v (rv_subB rfl rfl (by omega) (by omega)) rfl ?_)) | refine G.gN rfl rfl rfl ?_))
                    all_goals ((first | (refine G.gY rfl rfl ?_; refine G.v (rv_gtr rfl rfl) rfl ?_) | refine G.gN rfl rfl rfl ?_))
                    all_goals ((first | (refine G.gY rfl rfl ?_; refine G.v (rv_move rfl) rfl ?_) | refine G.gN rfl rfl rfl ?_))
                    all_goals ((first | refine G.gU rfl rfl rfl ?_ | ((with_reducible refine G.gP rfl rfl (fun hg => ?_) (fun hg => ?_)) <;> (try exact Bool.noConfusion hg) <;> (try (exfalso; (have hq := of_decide_eq_false hg; omega))) <;> (first | (refine G.gY rfl rfl ?_; refine G.v (rv_move rfl) rfl ?_) | refine G.gN rfl rfl rfl ?_))))
                    all_goals ((first | (refine G.gY rfl rfl ?_; refine G.v (rv_move rfl) rfl ?_) | refine G.gN rfl rfl rfl ?_ | refine G.gU rfl rfl rfl ?_))
                    all_goals ((first | (refine G.gY rfl rfl ?_; refine G.v (rv_mulB rfl rfl (by omega) (by omega)) rfl ?_) | refine G.gN rfl rfl rfl ?_ | refine G.gU rfl rfl rfl ?_))
                    all_goals ((first | (refine G.gY rfl rfl ?_; (refine G.v (rv_subB rfl rfl (by omega) (by omega)) rfl ?_)) | refine G.gN rfl rfl rfl ?_ | refine G.gU rfl rfl rfl ?_))
                    all_goals ((first | (refine G.gY rfl rfl ?_; refine G.v (rv_gtr rfl rfl) rfl ?_) | refine G.gN rfl rfl rfl ?_ | refine G.gU rfl rfl rfl ?_))
                    all_goals ((first | (refine G.gY rfl rfl ?_; (first | refine G.v (rv_pickT rfl rfl) rfl ?_ | refine G.v (rv_pickF rfl rfl) rfl ?_)) | refine G.gN rfl rfl rfl ?_))
                    all_goals ((first | refine G.v (rv_pickT rfl rfl) rfl ?_ | refine G.v (rv_pickF rfl rfl) rfl ?_))
                    all_goals
                     refine G.done (G.thenN ?_); refine G.cond rfl (fun hc => ?_) (fun hc => ?_)
                     · try exact Bool.noConfusion hc
                       all_goals
                        try replace hc := of_decide_eq_true hc
                        try (exfalso; contradiction)
                        all_goals
                         refine G.seq (G.region (G.v (rv_assign rfl) rfl (G.done (G.thenN (G.ret (G.thenR ?_))))))
                         (exfalso; (try simp only [Bool.not_eq_true', decide_eq_true_eq, decide_eq_false_iff_not, Bool.not_eq_false', Bool.not_true, Bool.not_false] at *); omega)
                     · try exact Bool.noConfusion hc
                       all_goals
                        try replace hc := of_decide_eq_false hc
                        try (exfalso; contradiction)
                        all_goals
                         refine G.skip (G.thenN (G.seq (G.region (G.v (rv_move rfl) rfl (G.v (rv_not rfl) rfl (G.v (rv_move rfl) rfl ?_))))))
                         all_goals (((with_reducible refine G.gP rfl rfl (fun hg => ?_) (fun hg => ?_)) <;> (try exact Bool.noConfusion hg) <;> (try (exfalso; (have hq := of_decide_eq_false hg; omega))) <;> (first | (refine G.gY rfl rfl ?_; refine G.v (rv_move rfl) rfl ?_) | refine G.gN rfl rfl rfl ?_)))
                         all_goals ((first | (refine G.gY rfl rfl ?_; refine G.v (rv_mulB rfl rfl (by omega) (by omega)) rfl ?_) | refine G.gN rfl rfl rfl ?_))
                         all_goals ((first | (refine G.gY rfl rfl ?_; refine G.v (rv_move rfl) rfl ?_) | refine G.gN rfl rfl rfl ?_))
                         all_goals ((first | (refine G.gY rfl rfl ?_; refine G.v (rv_mulB rfl rfl (by omega) (by omega)) rfl ?_) | refine G.gN rfl rfl rfl ?_))
                         all_goals ((first | (refine G.gY rfl rfl ?_; refine G.v (rv_leq rfl rfl) rfl ?_) | refine G.gN rfl rfl rfl ?_))
                         all_goals ((first | refine G.v (rv_pickT rfl rfl) rfl ?_ | refine G.v (rv_pickF rfl rfl) rfl ?_))
                         all_goals (refine G.v (rv_assign rfl) rfl ?_)
                         all_goals
                          refine G.done (G.thenN (G.ret ?_))
                          first | exact G.retFV rfl rfl rfl | exact G.retFV rfl rfl (by (congr 1; exact decide_eq_true (by (simp only [decide_eq_true_eq, decide_eq_false_iff_not] at *; omega)))) | (exfalso; (try simp only [Bool.not_eq_true', decide_eq_true_eq, decide_eq_false_iff_not, Bool.not_eq_false', Bool.not_true, Bool.not_false] at *); omega)
end Go.Proofs.YtibkggjbkgdnkaaGreat
