/-
  Texts of this proof, one behind the other: BestB.
-/
import Derived.Test.YtibkggjbkgdnkaaGreatPkvF
import Derived.Test.YtibkggjbkgdnkaaGreatPkvG
import Derived.Test.YtibkggjbkgdnkaaGreatPkvI
import Derived.Test.YtibkggjbkgdnkaaGreatPkvD

/-
  The law of the best.
-/
namespace Go.Proofs.YtibkggjbkgdnkaaGreat
open Go.RowKit
theorem best_factsB {r : ReqM} (hc : classM r = 0) (us : List Int) : lowM r us ≤ (firstM r us).length ∧ lowM r us ≤ (nextM r us).length ∧ lowVolM r us ≤ lowM r us ∧ lowGramM r us ≤ lowM r us ∧ greatM r us ≤ lowM r us ∧ (bestM r us < 0 ∨ (lowM r us ≤ bestM r us ∧ bestM r us ≤ (firstM r us).length ∧ bestM r us ≤ (nextM r us).length)) := by
  refine ⟨low_pack (first_pack hc us), low_pack (next_pack hc us), by rw [lowM]; omega, by rw [lowM]; omega, by rw [lowM]; omega, ?_⟩
  rw [bestM]
  split
  · right
    obtain ⟨C, h1, h2⟩ := best_is (us := us) hc
    have := low_pack h2
    have h3 := best_le (first_pack hc us)
    have h4 := best_le (next_pack hc us)
    omega
  · left; omega
theorem best_noB {r : ReqM} (hc : ¬ classM r = 0) (us : List Int) : bestM r us = -1 ∧ lowM r us = 0 := by
  constructor
  · rw [bestM, if_neg (fun h => hc h.1)]
  · rw [lowM, lowVolM, lowGramM, greatM, if_neg hc, if_neg hc, if_neg hc]; rfl
attribute [local irreducible] Go.wpList Go.Code.wp Go.Exit.then Go.Exit.inBlock Go.bodyPost Go.Calls pE pB G RunsV FnV Fn FnM
set_option maxRecDepth 100000
set_option maxHeartbeats 4000000
theorem fnBest_any {v : Value} {l : List Int} {w : World} (h : Rd w v 1 (l.map bcell)) : FnV Tryz.prog 16 [v] w (.bool true) := by
  refine FnV.of (n := 97) Tryz.func16 rfl rfl ?_; refine G.seq (G.region (G.v (rv_assign rfl) rfl (G.done (G.thenN (G.seq (G.seq (G.region (G.v (rv_move rfl) rfl ?_)))))))); refine G.op (og_callV rfl rfl (fun w hh => big_any w (by exact Rd.stays (by assumption) _ hh))) rfl (fun _ _ => ?_); refine G.done (G.thenN ?_); refine G.cond rfl (fun hc => ?_) (fun hc => ?_)
  · try exact Bool.noConfusion hc
    all_goals
     try replace hc := of_decide_eq_true hc
     try (exfalso; contradiction)
     all_goals
      refine G.seq (G.region (G.v (rv_assign rfl) rfl (G.done (G.thenN (G.ret (G.thenR ?_))))))
      exact G.retFV rfl rfl rfl
  · try exact Bool.noConfusion hc
    all_goals
     try replace hc := of_decide_eq_false hc
     try (exfalso; contradiction)
     all_goals
      refine G.skip (G.thenN (G.seq (G.region (G.v (rv_move rfl) rfl ?_))))
      (refine G.op (og_callF4 rfl rfl (fun w hh => dDrawBest_any w (by exact Rd.stays (by assumption) _ hh))) rfl ?_; rintro ⟨⟨⟨r, pv, tv, iv⟩, pv0, es0⟩, lv, us⟩ ⟨hdr, holv, hul⟩; try dsimp only)
      have hopv := hdr.1.1; have hotv := hdr.1.2.1; have hoiv := hdr.1.2.2; dsimp only at hopv hotv hoiv hul
      refine G.v (rv_move rfl) rfl (G.v (rv_extract rfl rfl) rfl (G.v (rv_extract rfl rfl) rfl ?_)); refine G.op (og_alloc) rfl (fun bk3 _ => ?_); refine G.op0 (og_st0 rfl rfl rfl rfl rfl (by repeat (first | rfl | refine one_cons (by first | rfl | assumption) ?_)) (.zero (.cons (.cons (.cons (.cons (.cons (.cons (.cons (.cons (.cons (.cons .nil)))))))))))) (fun _ _ => ?_); refine G.v (rv_assign rfl) rfl (G.done (G.thenN (G.seq (G.region (G.v (rv_loadW 0 rfl rfl rfl) rfl (G.v (rv_move rfl) rfl ?_)))))); refine G.op (og_callV rfl rfl (fun w hh => best_any (r := r) (us := us) w (hdr.2.1 _ (by exact Rd.owned 4 rfl _ hh)) (by exact Rd.owned 3 rfl _ hh) (by exact Rd.owned 2 rfl _ hh) (by exact Rd.owned 1 rfl _ hh) (by omega))) rfl (fun _ _ => ?_); refine G.v (rv_assign rfl) rfl (G.done (G.thenN (G.seq (G.region (G.v (rv_loadW 0 rfl rfl rfl) rfl (G.v (rv_move rfl) rfl ?_)))))); refine G.op (og_callV rfl rfl (fun w hh => lower_any (r := r) (us := us) w (hdr.2.1 _ (by exact Rd.owned 4 rfl _ hh)) (by exact Rd.owned 3 rfl _ hh) (by exact Rd.owned 2 rfl _ hh) (by exact Rd.owned 1 rfl _ hh) (by omega))) rfl (fun _ _ => ?_); refine G.v (rv_assign rfl) rfl (G.done (G.thenN (G.seq (G.seq (G.region (G.v (rv_move rfl) rfl (G.v (rv_loadW 0 rfl rfl rfl) rfl (G.v (rv_move rfl) rfl ?_))))))))
      refine G.op (og_callV rfl rfl (fun w hh => sbest_any (r := r) (us := us) w (hdr.2.1 _ (by exact Rd.owned 4 rfl _ hh)) (by exact Rd.owned 3 rfl _ hh) (by exact Rd.owned 2 rfl _ hh) (by exact Rd.owned 1 rfl _ hh) (by omega))) rfl (fun _ _ => ?_); refine G.v (rv_neq rfl rfl) rfl (G.v (rv_move rfl) rfl ?_)
      all_goals (((with_reducible refine G.gP rfl rfl (fun hg => ?_) (fun hg => ?_)) <;> (try exact Bool.noConfusion hg) <;> (try (exfalso; (have hq := of_decide_eq_true hg; omega); done)) <;> ((refine G.gY rfl rfl ?_; refine G.v (rv_move rfl) rfl ?_))))
      all_goals (((refine G.gY rfl rfl ?_; (refine G.v (rv_loadW 0 rfl rfl rfl) rfl ?_))))
      all_goals (((refine G.gY rfl rfl ?_; refine G.v (rv_move rfl) rfl ?_)))
      all_goals (((refine G.gY rfl rfl ?_; refine G.op (og_callV rfl rfl (fun w hh => slower_any (r := r) (us := us) w (hdr.2.1 _ (by exact Rd.owned 4 rfl _ hh)) (by exact Rd.owned 3 rfl _ hh) (by exact Rd.owned 2 rfl _ hh) (by exact Rd.owned 1 rfl _ hh) (by omega))) rfl (fun _ _ => ?_))))
      all_goals (((refine G.gY rfl rfl ?_; refine G.v (rv_neq rfl rfl) rfl ?_)))
      all_goals ((refine G.v (rv_pickF rfl rfl) rfl ?_))
      all_goals
       refine G.done (G.thenN ?_); refine G.cond rfl (fun hc => ?_) (fun hc => ?_)
       · try exact Bool.noConfusion hc
         all_goals
          try replace hc := of_decide_eq_true hc
          try (exfalso; contradiction)
          all_goals
           refine G.seq (G.region (G.v (rv_assign rfl) rfl (G.done (G.thenN (G.ret (G.thenR ?_))))))
           exact G.retFV rfl rfl rfl
       · try exact Bool.noConfusion hc
         all_goals
          try replace hc := of_decide_eq_false hc
          try (exfalso; contradiction)
          all_goals
           refine G.skip (G.thenN (G.seq (G.seq (G.region (G.v (rv_loadW 0 rfl rfl rfl) rfl ?_))))); refine G.op (og_callV rfl rfl (fun w hh => sclass_any (r := r) w (hdr.2.1 _ (by exact Rd.owned 4 rfl _ hh)) (by exact Rd.owned 3 rfl _ hh) (by exact Rd.owned 2 rfl _ hh))) rfl (fun _ _ => ?_); refine G.v (rv_neq rfl rfl) rfl (G.done (G.thenN ?_)); refine G.cond rfl (fun hc => ?_) (fun hc => ?_)
           · try exact Bool.noConfusion hc
             all_goals
              try replace hc := of_decide_eq_true hc
              try (exfalso; contradiction)
              all_goals
               obtain ⟨no1, no2⟩ := best_noB hc us
               all_goals
                refine G.seq (G.region (G.v (rv_move rfl) rfl (G.v (rv_eql rfl rfl) rfl (G.v (rv_move rfl) rfl ?_))))
                all_goals (((with_reducible refine G.gP rfl rfl (fun hg => ?_) (fun hg => ?_)) <;> (try exact Bool.noConfusion hg) <;> (try (exfalso; (have hq := of_decide_eq_false hg; omega))) <;> ((refine G.gY rfl rfl ?_; refine G.v (rv_move rfl) rfl ?_))))
                all_goals (((refine G.gY rfl rfl ?_; refine G.v (rv_eql rfl rfl) rfl ?_)))
                all_goals ((refine G.v (rv_pickT rfl rfl) rfl ?_))
                all_goals (refine G.v (rv_assign rfl) rfl ?_)
                all_goals
                 refine G.done (G.thenN (G.ret (G.thenR ?_)))
                 (exact G.retFV rfl rfl (by (congr 1; exact decide_eq_true (by omega))))
           · try exact Bool.noConfusion hc
             all_goals
              try replace hc := of_decide_eq_false hc
              try (exfalso; contradiction)
              all_goals
               have hz : classM r = 0 := Decidable.not_not.1 hc; obtain ⟨b1, b2, b3, b4, b5, b6⟩ := best_factsB hz us
               all_goals
                refine G.skip (G.thenN (G.seq (G.region (G.v (rv_loadW 0 rfl rfl rfl) rfl (G.v (rv_move rfl) rfl ?_)))))
                (refine G.op (og_callF2 rfl rfl (fun w hh => firstFit_any (r := r) (us := us) w (hdr.2.1 _ (by exact Rd.owned 4 rfl _ hh)) (by exact Rd.owned 3 rfl _ hh) (by exact Rd.owned 2 rfl _ hh) (by exact Rd.owned 1 rfl _ hh) (by omega))) rfl ?_; rintro ⟨vp, ps⟩ ⟨hvp, hps⟩; try dsimp only)
                have ep : (ps.map gcell).length = (firstM r us).length := gl_len hps
                refine G.v (rv_len rfl (by exact Rd.owned 1 rfl)) rfl ?_; refine G.v (rv_assign rfl) rfl (G.done (G.thenN (G.seq (G.region (G.v (rv_loadW 2 rfl rfl rfl) rfl (G.v (rv_move rfl) rfl ?_))))))
                (refine G.op (og_callF2 rfl rfl (fun w hh => nextFit_any (r := r) (us := us) w (hdr.2.1 _ (by exact Rd.owned 6 rfl _ hh)) (by exact Rd.owned 5 rfl _ hh) (by exact Rd.owned 4 rfl _ hh) (by exact Rd.owned 3 rfl _ hh) (by omega))) rfl ?_; rintro ⟨vo, os⟩ ⟨hvo, hos⟩; try dsimp only)
                have eo : (os.map gcell).length = (nextM r us).length := gl_len hos
                refine G.v (rv_len rfl (by exact Rd.owned 1 rfl)) rfl ?_; refine G.v (rv_assign rfl) rfl (G.done (G.thenN (G.seq (G.seq (G.region (G.v (rv_move rfl) rfl (G.v (rv_move rfl) rfl (G.v (rv_gtr rfl rfl) rfl (G.v (rv_move rfl) rfl ?_)))))))))
                all_goals (((with_reducible refine G.gP rfl rfl (fun hg => ?_) (fun hg => ?_)) <;> (try exact Bool.noConfusion hg) <;> (try (exfalso; (have hq := of_decide_eq_true hg; omega); done)) <;> ((refine G.gY rfl rfl ?_; refine G.v (rv_move rfl) rfl ?_))))
                all_goals (((refine G.gY rfl rfl ?_; refine G.v (rv_move rfl) rfl ?_)))
                all_goals (((refine G.gY rfl rfl ?_; refine G.v (rv_gtr rfl rfl) rfl ?_)))
                all_goals ((refine G.v (rv_pickF rfl rfl) rfl ?_))
                all_goals (refine G.v (rv_move rfl) rfl ?_)
                all_goals (((with_reducible refine G.gP rfl rfl (fun hg => ?_) (fun hg => ?_)) <;> (try exact Bool.noConfusion hg) <;> (try (exfalso; (have hq := of_decide_eq_true hg; omega); done)) <;> ((refine G.gY rfl rfl ?_; refine G.v (rv_move rfl) rfl ?_))))
                all_goals (((refine G.gY rfl rfl ?_; (refine G.v (rv_loadW 4 rfl rfl rfl) rfl ?_))))
                all_goals (((refine G.gY rfl rfl ?_; refine G.v (rv_move rfl) rfl ?_)))
                all_goals (((refine G.gY rfl rfl ?_; refine G.op (og_callV rfl rfl (fun w hh => lowerVolume_any (r := r) (us := us) w (hdr.2.1 _ (by exact Rd.owned 8 rfl _ hh)) (by exact Rd.owned 7 rfl _ hh) (by exact Rd.owned 6 rfl _ hh) (by exact Rd.owned 5 rfl _ hh) (by omega))) rfl (fun _ _ => ?_))))
                all_goals (((refine G.gY rfl rfl ?_; refine G.v (rv_lss rfl rfl) rfl ?_)))
                all_goals ((refine G.v (rv_pickF rfl rfl) rfl ?_))
                all_goals (refine G.v (rv_move rfl) rfl ?_)
                all_goals (((with_reducible refine G.gP rfl rfl (fun hg => ?_) (fun hg => ?_)) <;> (try exact Bool.noConfusion hg) <;> (try (exfalso; (have hq := of_decide_eq_true hg; omega); done)) <;> ((refine G.gY rfl rfl ?_; refine G.v (rv_move rfl) rfl ?_))))
                all_goals (((refine G.gY rfl rfl ?_; (refine G.v (rv_loadW 4 rfl rfl rfl) rfl ?_))))
                all_goals (((refine G.gY rfl rfl ?_; refine G.v (rv_move rfl) rfl ?_)))
                all_goals (((refine G.gY rfl rfl ?_; refine G.op (og_callV rfl rfl (fun w hh => lowerGram_any (r := r) (us := us) w (hdr.2.1 _ (by exact Rd.owned 8 rfl _ hh)) (by exact Rd.owned 7 rfl _ hh) (by exact Rd.owned 6 rfl _ hh) (by exact Rd.owned 5 rfl _ hh) (by omega))) rfl (fun _ _ => ?_))))
                all_goals (((refine G.gY rfl rfl ?_; refine G.v (rv_lss rfl rfl) rfl ?_)))
                all_goals ((refine G.v (rv_pickF rfl rfl) rfl ?_))
                all_goals (refine G.v (rv_move rfl) rfl ?_)
                all_goals (((with_reducible refine G.gP rfl rfl (fun hg => ?_) (fun hg => ?_)) <;> (try exact Bool.noConfusion hg) <;> (try (exfalso; (have hq := of_decide_eq_true hg; omega); done)) <;> ((refine G.gY rfl rfl ?_; refine G.v (rv_move rfl) rfl ?_))))
                all_goals (((refine G.gY rfl rfl ?_; (refine G.v (rv_loadW 4 rfl rfl rfl) rfl ?_))))
                all_goals (((refine G.gY rfl rfl ?_; refine G.v (rv_move rfl) rfl ?_)))
                all_goals (((refine G.gY rfl rfl ?_; refine G.op (og_callV rfl rfl (fun w hh => lowerGreat_any (r := r) (us := us) w (hdr.2.1 _ (by exact Rd.owned 8 rfl _ hh)) (by exact Rd.owned 7 rfl _ hh) (by exact Rd.owned 6 rfl _ hh) (by exact Rd.owned 5 rfl _ hh) (by omega))) rfl (fun _ _ => ?_))))
                all_goals (((refine G.gY rfl rfl ?_; refine G.v (rv_lss rfl rfl) rfl ?_)))
                all_goals ((refine G.v (rv_pickF rfl rfl) rfl ?_))
                all_goals
                 refine G.done (G.thenN ?_); refine G.cond rfl (fun hc => ?_) (fun hc => ?_)
                 · try exact Bool.noConfusion hc
                   all_goals
                    try replace hc := of_decide_eq_true hc
                    try (exfalso; omega)
                    all_goals
                     refine G.seq (G.region (G.v (rv_assign rfl) rfl (G.done (G.thenN (G.ret (G.thenR ?_))))))
                     exact G.retFV rfl rfl rfl
                 · try exact Bool.noConfusion hc
                   all_goals
                    try replace hc := of_decide_eq_false hc
                    try (exfalso; contradiction)
                    all_goals
                     refine G.skip (G.thenN (G.seq (G.region (G.v (rv_move rfl) rfl (G.v (rv_lss rfl rfl) rfl (G.v (rv_move rfl) rfl ?_))))))
                     all_goals (((with_reducible refine G.gP rfl rfl (fun hg => ?_) (fun hg => ?_)) <;> (try exact Bool.noConfusion hg) <;> (try (exfalso; (have hq := of_decide_eq_false hg; omega))) <;> (first | (refine G.gY rfl rfl ?_; refine G.v (rv_move rfl) rfl ?_) | refine G.gN rfl rfl rfl ?_)))
                     all_goals ((first | (refine G.gY rfl rfl ?_; refine G.v (rv_move rfl) rfl ?_) | refine G.gN rfl rfl rfl ?_))
                     all_goals ((first | (refine G.gY rfl rfl ?_; refine G.v (rv_leq rfl rfl) rfl ?_) | refine G.gN rfl rfl rfl ?_))
                     all_goals ((first | (refine G.gY rfl rfl ?_; refine G.v (rv_move rfl) rfl ?_) | refine G.gN rfl rfl rfl ?_))
                     all_goals ((first | refine G.gU rfl rfl rfl ?_ | ((with_reducible refine G.gP rfl rfl (fun hg => ?_) (fun hg => ?_)) <;> (try exact Bool.noConfusion hg) <;> (try (exfalso; (have hq := of_decide_eq_false hg; omega))) <;> (first | (refine G.gY rfl rfl ?_; refine G.v (rv_move rfl) rfl ?_) | refine G.gN rfl rfl rfl ?_))))
                     all_goals ((first | (refine G.gY rfl rfl ?_; refine G.v (rv_move rfl) rfl ?_) | refine G.gN rfl rfl rfl ?_ | refine G.gU rfl rfl rfl ?_))
                     all_goals ((first | (refine G.gY rfl rfl ?_; refine G.v (rv_leq rfl rfl) rfl ?_) | refine G.gN rfl rfl rfl ?_ | refine G.gU rfl rfl rfl ?_))
                     all_goals ((first | (refine G.gY rfl rfl ?_; (first | refine G.v (rv_pickT rfl rfl) rfl ?_ | refine G.v (rv_pickF rfl rfl) rfl ?_)) | refine G.gN rfl rfl rfl ?_))
                     all_goals ((first | (refine G.gY rfl rfl ?_; refine G.v (rv_move rfl) rfl ?_) | refine G.gN rfl rfl rfl ?_))
                     all_goals ((first | refine G.gU rfl rfl rfl ?_ | ((with_reducible refine G.gP rfl rfl (fun hg => ?_) (fun hg => ?_)) <;> (try exact Bool.noConfusion hg) <;> (try (exfalso; (have hq := of_decide_eq_false hg; omega))) <;> (first | (refine G.gY rfl rfl ?_; refine G.v (rv_move rfl) rfl ?_) | refine G.gN rfl rfl rfl ?_))))
                     all_goals ((first | (refine G.gY rfl rfl ?_; refine G.v (rv_move rfl) rfl ?_) | refine G.gN rfl rfl rfl ?_ | refine G.gU rfl rfl rfl ?_))
                     all_goals ((first | (refine G.gY rfl rfl ?_; refine G.v (rv_leq rfl rfl) rfl ?_) | refine G.gN rfl rfl rfl ?_ | refine G.gU rfl rfl rfl ?_))
                     all_goals ((first | (refine G.gY rfl rfl ?_; (first | refine G.v (rv_pickT rfl rfl) rfl ?_ | refine G.v (rv_pickF rfl rfl) rfl ?_)) | refine G.gN rfl rfl rfl ?_))
                     all_goals ((first | refine G.v (rv_pickT rfl rfl) rfl ?_ | refine G.v (rv_pickF rfl rfl) rfl ?_))
                     all_goals (refine G.v (rv_assign rfl) rfl ?_)
                     all_goals
                      refine G.done (G.thenN (G.ret ?_))
                      first | exact G.retFV rfl rfl rfl | exact G.retFV rfl rfl (by (congr 1; exact decide_eq_true (by omega))) | (exfalso; (try simp only [decide_eq_true_eq, decide_eq_false_iff_not] at *); omega)
end Go.Proofs.YtibkggjbkgdnkaaGreat
