/-
  Texts of this proof, one behind the other: Packs.
-/
import Derived.Test.YtibkggjbkgdnkaaGreatPkuF
import Derived.Test.YtibkggjbkgdnkaaGreatPkuE
import Derived.Test.YtibkggjbkgdnkaaGreatPkuH

/-
  The law of the packings.
-/
namespace Go.Proofs.YtibkggjbkgdnkaaGreat
open Go.RowKit
theorem gl_len {os : List (List Int × Value)} {l : List (List Int)} (h : os.map Prod.fst = l) : (os.map gcell).length = l.length := by rw [← h, List.length_map, List.length_map]
theorem way_in {r : ReqM} (h : classM r = 0) : r.way = 0 ∨ r.way = 1 := by
  have hb := cls_sound h
  simp only [boundsOkM, Bool.and_eq_true, inB, decide_eq_true_eq] at hb
  omega
theorem next_flat (r : ReqM) (us : List Int) : (nextM r us).flatten.length ≤ us.length := by rw [nextM, (lastAll_perm _ _).length_eq]; exact thereM_len r us
theorem first_flat (r : ReqM) (us : List Int) : (firstM r us).flatten.length ≤ us.length := by rw [firstM, (putAll_perm _ _).length_eq, ordU_len]; exact thereM_len r us
attribute [local irreducible] Go.wpList Go.Code.wp Go.Exit.then Go.Exit.inBlock Go.bodyPost Go.Calls pE pB G RunsV FnV Fn FnM
set_option maxRecDepth 100000
set_option maxHeartbeats 4000000
theorem fnPackings_any {v : Value} {l : List Int} {w : World} (h : Rd w v 1 (l.map bcell)) : FnV Tryz.prog 12 [v] w (.bool true) := by
  refine FnV.of (n := 92) Tryz.func12 rfl rfl ?_; refine G.seq (G.region (G.v (rv_assign rfl) rfl (G.done (G.thenN (G.seq (G.seq (G.region (G.v (rv_move rfl) rfl ?_)))))))); refine G.op (og_callV rfl rfl (fun w hh => big_any w (by exact Rd.stays (by assumption) _ hh))) rfl (fun _ _ => ?_); refine G.done (G.thenN ?_); refine G.cond rfl (fun hc => ?_) (fun hc => ?_)
  · try exact Bool.noConfusion hc
    all_goals
     try replace hc := of_decide_eq_true hc
     try simp only [List.length_map] at hc
     try (exfalso; contradiction)
     all_goals
      refine G.seq (G.region (G.v (rv_assign rfl) rfl (G.done (G.thenN (G.ret (G.thenR ?_))))))
      exact G.retFV rfl rfl rfl
  · try exact Bool.noConfusion hc
    all_goals
     try replace hc := of_decide_eq_false hc
     try simp only [List.length_map] at hc
     try (exfalso; contradiction)
     all_goals
      refine G.skip (G.thenN (G.seq (G.region (G.v (rv_move rfl) rfl ?_))))
      (refine G.op (og_callF4 rfl rfl (fun w hh => dDrawNextFit_any w (by exact Rd.stays (by assumption) _ hh))) rfl ?_; rintro ⟨⟨⟨r, pv, tv, iv⟩, pv0, es0⟩, lv, us⟩ ⟨hdr, holv, hul⟩; try dsimp only)
      have hopv := hdr.1.1; have hotv := hdr.1.2.1; have hoiv := hdr.1.2.2; dsimp only at hopv hotv hoiv hul
      refine G.v (rv_move rfl) rfl (G.v (rv_extract rfl rfl) rfl (G.v (rv_extract rfl rfl) rfl ?_)); refine G.op (og_alloc) rfl (fun bk3 _ => ?_); refine G.op0 (og_st0 rfl rfl rfl rfl rfl (by repeat (first | rfl | refine one_cons (by first | rfl | assumption) ?_)) (.zero (.cons (.cons (.cons (.cons (.cons (.cons (.cons (.cons (.cons (.cons .nil)))))))))))) (fun _ _ => ?_); refine G.v (rv_assign rfl) rfl (G.done (G.thenN (G.seq (G.region (G.v (rv_loadW 0 rfl rfl rfl) rfl (G.v (rv_move rfl) rfl ?_))))))
      (refine G.op (og_callF2 rfl rfl (fun w hh => nextFit_any (r := r) (us := us) w (hdr.2.1 _ (by exact Rd.owned 4 rfl _ hh)) (by exact Rd.owned 3 rfl _ hh) (by exact Rd.owned 2 rfl _ hh) (by exact Rd.owned 1 rfl _ hh) (by omega))) rfl ?_; rintro ⟨vo, os⟩ ⟨hvo, hos⟩; try dsimp only)
      have eo : (os.map gcell).length = (nextM r us).length := gl_len hos; have eo2 : os.length = (nextM r us).length := (by rw [← eo, List.length_map]); have fo : (os.map Prod.fst).flatten.length ≤ 1048576 := (by rw [hos]; exact Nat.le_trans (next_flat r us) (by omega))
      refine G.v (rv_assign rfl) rfl (G.done (G.thenN (G.seq (G.region (G.v (rv_loadW 2 rfl rfl rfl) rfl (G.v (rv_move rfl) rfl ?_))))))
      (refine G.op (og_callF2 rfl rfl (fun w hh => firstFit_any (r := r) (us := us) w (hdr.2.1 _ (by exact Rd.owned 6 rfl _ hh)) (by exact Rd.owned 5 rfl _ hh) (by exact Rd.owned 4 rfl _ hh) (by exact Rd.owned 3 rfl _ hh) (by omega))) rfl ?_; rintro ⟨vp, ps⟩ ⟨hvp, hps⟩; try dsimp only)
      have ep : (ps.map gcell).length = (firstM r us).length := gl_len hps; have ep2 : ps.length = (firstM r us).length := (by rw [← ep, List.length_map]); have fp : (ps.map Prod.fst).flatten.length ≤ 1048576 := (by rw [hps]; exact Nat.le_trans (first_flat r us) (by omega))
      refine G.v (rv_assign rfl) rfl (G.done (G.thenN (G.seq (G.seq (G.region (G.v (rv_move rfl) rfl ?_)))))); refine G.v (rv_len rfl (by exact Rd.owned 3 rfl)) rfl ?_; refine G.v (rv_loadW 4 rfl rfl rfl) rfl (G.v (rv_move rfl) rfl ?_)
      (refine G.op (og_callF2 rfl rfl (fun w hh => snextFit_any (r := r) (us := us) w (hdr.2.1 _ (by exact Rd.owned 8 rfl _ hh)) (by exact Rd.owned 7 rfl _ hh) (by exact Rd.owned 6 rfl _ hh) (by exact Rd.owned 5 rfl _ hh) (by omega))) rfl ?_; rintro ⟨vq, qs⟩ ⟨hvq, hqs⟩; try dsimp only)
      have eq : (qs.map gcell).length = (nextM r us).length := gl_len hqs
      refine G.v (rv_len rfl (by exact Rd.owned 1 rfl)) rfl ?_; refine G.v (rv_neq rfl rfl) rfl (G.v (rv_move rfl) rfl ?_)
      all_goals (((with_reducible refine G.gP rfl rfl (fun hg => ?_) (fun hg => ?_)) <;> (try exact Bool.noConfusion hg) <;> (try (exfalso; first | (rw [pk1] at hg; cases hg; done) | (rw [pk2] at hg; cases hg; done) | (have hq := of_decide_eq_false hg; omega) | (have hq := of_decide_eq_true hg; omega); done)) <;> ((refine G.gY rfl rfl ?_; refine G.v (rv_move rfl) rfl ?_))))
      all_goals (((refine G.gY rfl rfl ?_; refine G.v (rv_len rfl (by exact Rd.owned 3 rfl)) rfl ?_)))
      all_goals (((refine G.gY rfl rfl ?_; (refine G.v (rv_loadW 6 rfl rfl rfl) rfl ?_))))
      all_goals (((refine G.gY rfl rfl ?_; refine G.v (rv_move rfl) rfl ?_)))
      all_goals (((refine G.gY rfl rfl ?_; (refine G.op (og_callF2 rfl rfl (fun w hh => sfirstFit_any (r := r) (us := us) w (hdr.2.1 _ (by exact Rd.owned 10 rfl _ hh)) (by exact Rd.owned 9 rfl _ hh) (by exact Rd.owned 8 rfl _ hh) (by exact Rd.owned 7 rfl _ hh) (by omega))) rfl ?_; rintro ⟨vs, ss⟩ ⟨hvs, hss⟩; try dsimp only))))
      all_goals (try (have es : (ss.map gcell).length = (firstM r us).length := gl_len hss; have es2 : ss.length = (firstM r us).length := (by rw [← es, List.length_map])))
      all_goals (((refine G.gY rfl rfl ?_; refine G.v (rv_len rfl (by exact Rd.owned 1 rfl)) rfl ?_)))
      all_goals (((refine G.gY rfl rfl ?_; refine G.v (rv_neq rfl rfl) rfl ?_)))
      all_goals ((refine G.v (rv_pickF rfl rfl) rfl ?_))
      all_goals
       refine G.done (G.thenN ?_); refine G.cond rfl (fun hc => ?_) (fun hc => ?_)
       · try exact Bool.noConfusion hc
         all_goals
          try replace hc := of_decide_eq_true hc
          try simp only [List.length_map] at hc
          try (exfalso; omega)
          all_goals
           refine G.seq (G.region (G.v (rv_assign rfl) rfl (G.done (G.thenN (G.ret (G.thenR ?_))))))
           exact G.retFV rfl rfl rfl
       · try exact Bool.noConfusion hc
         all_goals
          try replace hc := of_decide_eq_false hc
          try simp only [List.length_map] at hc
          try (exfalso; contradiction)
          all_goals
           refine G.skip (G.thenN (G.seq (G.seq (G.region (G.v (rv_loadW 8 rfl rfl rfl) rfl ?_))))); refine G.op (og_callV rfl rfl (fun w hh => sclass_any (r := r) w (hdr.2.1 _ (by exact Rd.owned 12 rfl _ hh)) (by exact Rd.owned 11 rfl _ hh) (by exact Rd.owned 10 rfl _ hh))) rfl (fun _ _ => ?_); refine G.v (rv_neq rfl rfl) rfl (G.done (G.thenN ?_)); refine G.cond rfl (fun hc => ?_) (fun hc => ?_)
           · try exact Bool.noConfusion hc
             all_goals
              try replace hc := of_decide_eq_true hc
              try simp only [List.length_map] at hc
              try (exfalso; contradiction)
              all_goals
               have no1 : (nextM r us).length = 0 := (by rw [next_no hc]; rfl); have no2 : (firstM r us).length = 0 := (by rw [first_no hc]; rfl)
               all_goals
                refine G.seq (G.region (G.v (rv_move rfl) rfl ?_)); refine G.v (rv_len rfl (by exact Rd.owned 7 rfl)) rfl ?_; refine G.v (rv_eql rfl rfl) rfl (G.v (rv_move rfl) rfl ?_)
                all_goals (((with_reducible refine G.gP rfl rfl (fun hg => ?_) (fun hg => ?_)) <;> (try exact Bool.noConfusion hg) <;> (try (exfalso; first | (rw [pk1] at hg; cases hg; done) | (rw [pk2] at hg; cases hg; done) | (have hq := of_decide_eq_false hg; omega) | (have hq := of_decide_eq_true hg; omega); done)) <;> ((refine G.gY rfl rfl ?_; refine G.v (rv_move rfl) rfl ?_))))
                all_goals (((refine G.gY rfl rfl ?_; refine G.v (rv_len rfl (by exact Rd.owned 5 rfl)) rfl ?_)))
                all_goals (((refine G.gY rfl rfl ?_; refine G.v (rv_eql rfl rfl) rfl ?_)))
                all_goals ((refine G.v (rv_pickT rfl rfl) rfl ?_))
                all_goals (refine G.v (rv_move rfl) rfl ?_)
                all_goals (((with_reducible refine G.gP rfl rfl (fun hg => ?_) (fun hg => ?_)) <;> (try exact Bool.noConfusion hg) <;> (try (exfalso; first | (rw [pk1] at hg; cases hg; done) | (rw [pk2] at hg; cases hg; done) | (have hq := of_decide_eq_false hg; omega) | (have hq := of_decide_eq_true hg; omega); done)) <;> ((refine G.gY rfl rfl ?_; (refine G.v (rv_loadW 8 rfl rfl rfl) rfl ?_)))))
                all_goals (((refine G.gY rfl rfl ?_; refine G.v (rv_move rfl) rfl ?_)))
                all_goals (((refine G.gY rfl rfl ?_; refine G.v (rv_move rfl) rfl ?_)))
                all_goals (((refine G.gY rfl rfl ?_; refine G.op (og_callV rfl rfl (fun w hh => isPacking_any (r := r) (us := us) (l := os) w (hdr.2.1 _ (by exact Rd.owned 12 rfl _ hh)) (by exact Rd.owned 11 rfl _ hh) (by exact Rd.owned 10 rfl _ hh) (by exact Rd.owned 9 rfl _ hh) (by exact Rd.owned 7 rfl _ hh) (by exact Subs.owned 6 rfl _ hh) (by omega) fo)) rfl (fun _ _ => ?_))))
                all_goals (((refine G.gY rfl rfl ?_; refine G.v (rv_not rfl) rfl ?_)))
                all_goals ((refine G.v (rv_pickT rfl rfl) rfl ?_))
                all_goals (refine G.v (rv_assign rfl) rfl ?_)
                all_goals
                 refine G.done (G.thenN (G.ret (G.thenR ?_)))
                 (exact G.retFV rfl rfl (by (simp [packM_no hc]; done)))
           · try exact Bool.noConfusion hc
             all_goals
              try replace hc := of_decide_eq_false hc
              try simp only [List.length_map] at hc
              try (exfalso; contradiction)
              all_goals
               have hz : classM r = 0 := Decidable.not_not.1 hc; have pk1 : packM r us (os.map Prod.fst) = true := (by rw [show os.map Prod.fst = nextM r us from hos]; exact next_pack hz us); have pk2 : packM r us (ps.map Prod.fst) = true := (by rw [show ps.map Prod.fst = firstM r us from hps]; exact first_pack hz us); have hwy := way_in hz
               have hw1 : r.way = 1 → (wayM r us).length = (nextM r us).length := fun h => by rw [wayM, if_pos h]
               have hw0 : ¬ r.way = 1 → (wayM r us).length = (firstM r us).length := fun h => by rw [wayM, if_neg h]
               all_goals
                refine G.skip (G.thenN (G.seq (G.region (G.v (rv_loadW 8 rfl rfl rfl) rfl (G.v (rv_move rfl) rfl ?_)))))
                (refine G.op (og_callF2 rfl rfl (fun w hh => packWay_any (r := r) (us := us) w (hdr.2.1 _ (by exact Rd.owned 12 rfl _ hh)) (by exact Rd.owned 11 rfl _ hh) (by exact Rd.owned 10 rfl _ hh) (by exact Rd.owned 9 rfl _ hh) (by omega))) rfl ?_; rintro ⟨vw, ws⟩ ⟨hvw, hws⟩; try dsimp only)
                have ew : (ws.map gcell).length = (wayM r us).length := gl_len hws
                refine G.v (rv_assign rfl) rfl (G.done (G.thenN (G.seq (G.region (G.v (rv_loadW 10 rfl rfl rfl) rfl (G.v (rv_move rfl) rfl (G.v (rv_move rfl) rfl ?_))))))); refine G.op (og_callV rfl rfl (fun w hh => isPacking_any (r := r) (us := us) (l := os) w (hdr.2.1 _ (by exact Rd.owned 14 rfl _ hh)) (by exact Rd.owned 13 rfl _ hh) (by exact Rd.owned 12 rfl _ hh) (by exact Rd.owned 11 rfl _ hh) (by exact Rd.owned 9 rfl _ hh) (by exact Subs.owned 8 rfl _ hh) (by omega) fo)) rfl (fun _ _ => ?_); refine G.v (rv_move rfl) rfl ?_
                all_goals (((with_reducible refine G.gP rfl rfl (fun hg => ?_) (fun hg => ?_)) <;> (try exact Bool.noConfusion hg) <;> (try (exfalso; first | (rw [pk1] at hg; cases hg; done) | (rw [pk2] at hg; cases hg; done) | (have hq := of_decide_eq_false hg; omega) | (have hq := of_decide_eq_true hg; omega); done)) <;> ((refine G.gY rfl rfl ?_; (refine G.v (rv_loadW 10 rfl rfl rfl) rfl ?_)))))
                all_goals (((refine G.gY rfl rfl ?_; refine G.v (rv_move rfl) rfl ?_)))
                all_goals (((refine G.gY rfl rfl ?_; refine G.v (rv_move rfl) rfl ?_)))
                all_goals (((refine G.gY rfl rfl ?_; refine G.op (og_callV rfl rfl (fun w hh => isPacking_any (r := r) (us := us) (l := ps) w (hdr.2.1 _ (by exact Rd.owned 14 rfl _ hh)) (by exact Rd.owned 13 rfl _ hh) (by exact Rd.owned 12 rfl _ hh) (by exact Rd.owned 11 rfl _ hh) (by exact Rd.owned 7 rfl _ hh) (by exact Subs.owned 6 rfl _ hh) (by omega) fp)) rfl (fun _ _ => ?_))))
                all_goals ((refine G.v (rv_pickT rfl rfl) rfl ?_))
                all_goals (refine G.v (rv_move rfl) rfl ?_)
                all_goals (((with_reducible refine G.gP rfl rfl (fun hg => ?_) (fun hg => ?_)) <;> (try exact Bool.noConfusion hg) <;> (try (exfalso; first | (rw [pk1] at hg; cases hg; done) | (rw [pk2] at hg; cases hg; done) | (have hq := of_decide_eq_false hg; omega) | (have hq := of_decide_eq_true hg; omega); done)) <;> ((refine G.gY rfl rfl ?_; refine G.v (rv_move rfl) rfl ?_))))
                all_goals (((refine G.gY rfl rfl ?_; refine G.v (rv_len rfl (by exact Rd.owned 1 rfl)) rfl ?_)))
                all_goals (((refine G.gY rfl rfl ?_; refine G.v (rv_move rfl) rfl ?_)))
                all_goals (((refine G.gY rfl rfl ?_; refine G.v (rv_len rfl (by exact Rd.owned 9 rfl)) rfl ?_)))
                all_goals (((refine G.gY rfl rfl ?_; refine G.v (rv_eql rfl rfl) rfl ?_)))
                all_goals (((refine G.gY rfl rfl ?_; refine G.v (rv_move rfl) rfl ?_)))
                all_goals ((((with_reducible refine G.gP rfl rfl (fun hg => ?_) (fun hg => ?_)) <;> (try exact Bool.noConfusion hg) <;> (try (exfalso; first | (rw [pk1] at hg; cases hg; done) | (rw [pk2] at hg; cases hg; done) | (have hq := of_decide_eq_false hg; omega) | (have hq := of_decide_eq_true hg; omega); done)) <;> (first | (refine G.gY rfl rfl ?_; (refine G.v (rv_field rfl) rfl ?_)) | refine G.gN rfl rfl rfl ?_))))
                all_goals ((first | (refine G.gY rfl rfl ?_; (refine G.v (rv_load1 10 rfl rfl rfl) rfl ?_)) | refine G.gN rfl rfl rfl ?_))
                all_goals ((first | (refine G.gY rfl rfl ?_; refine G.v (rv_eql rfl rfl) rfl ?_) | refine G.gN rfl rfl rfl ?_))
                all_goals (((refine G.gY rfl rfl ?_; (first | refine G.v (rv_pickT rfl rfl) rfl ?_ | refine G.v (rv_pickF rfl rfl) rfl ?_))))
                all_goals (((refine G.gY rfl rfl ?_; refine G.v (rv_move rfl) rfl ?_)))
                all_goals ((((with_reducible refine G.gP rfl rfl (fun hg => ?_) (fun hg => ?_)) <;> (try exact Bool.noConfusion hg) <;> (try (exfalso; first | (rw [pk1] at hg; cases hg; done) | (rw [pk2] at hg; cases hg; done) | (have hq := of_decide_eq_false hg; omega) | (have hq := of_decide_eq_true hg; omega); done)) <;> (first | (refine G.gY rfl rfl ?_; refine G.v (rv_move rfl) rfl ?_) | refine G.gN rfl rfl rfl ?_))))
                all_goals ((first | (refine G.gY rfl rfl ?_; refine G.v (rv_len rfl (by exact Rd.owned 1 rfl)) rfl ?_) | refine G.gN rfl rfl rfl ?_))
                all_goals ((first | (refine G.gY rfl rfl ?_; refine G.v (rv_move rfl) rfl ?_) | refine G.gN rfl rfl rfl ?_))
                all_goals ((first | (refine G.gY rfl rfl ?_; refine G.v (rv_len rfl (by exact Rd.owned 7 rfl)) rfl ?_) | refine G.gN rfl rfl rfl ?_))
                all_goals ((first | (refine G.gY rfl rfl ?_; refine G.v (rv_eql rfl rfl) rfl ?_) | refine G.gN rfl rfl rfl ?_))
                all_goals ((first | (refine G.gY rfl rfl ?_; refine G.v (rv_move rfl) rfl ?_) | refine G.gN rfl rfl rfl ?_))
                all_goals ((first | refine G.gU rfl rfl rfl ?_ | ((with_reducible refine G.gP rfl rfl (fun hg => ?_) (fun hg => ?_)) <;> (try exact Bool.noConfusion hg) <;> (try (exfalso; first | (rw [pk1] at hg; cases hg; done) | (rw [pk2] at hg; cases hg; done) | (have hq := of_decide_eq_false hg; omega) | (have hq := of_decide_eq_true hg; omega); done)) <;> (first | (refine G.gY rfl rfl ?_; (refine G.v (rv_field rfl) rfl ?_)) | refine G.gN rfl rfl rfl ?_))))
                all_goals ((first | (refine G.gY rfl rfl ?_; (refine G.v (rv_load1 10 rfl rfl rfl) rfl ?_)) | refine G.gN rfl rfl rfl ?_ | refine G.gU rfl rfl rfl ?_))
                all_goals ((first | (refine G.gY rfl rfl ?_; refine G.v (rv_eql rfl rfl) rfl ?_) | refine G.gN rfl rfl rfl ?_ | refine G.gU rfl rfl rfl ?_))
                all_goals ((first | (refine G.gY rfl rfl ?_; (first | refine G.v (rv_pickT rfl rfl) rfl ?_ | refine G.v (rv_pickF rfl rfl) rfl ?_)) | refine G.gN rfl rfl rfl ?_))
                all_goals (((refine G.gY rfl rfl ?_; (first | refine G.v (rv_pickT rfl rfl) rfl ?_ | refine G.v (rv_pickF rfl rfl) rfl ?_))))
                all_goals ((refine G.v (rv_pickT rfl rfl) rfl ?_))
                all_goals (refine G.v (rv_assign rfl) rfl ?_)
                all_goals
                 refine G.done (G.thenN (G.ret ?_))
                 first | exact G.retFV rfl rfl rfl | exact G.retFV rfl rfl (by (congr 1; exact decide_eq_true (by first | omega | (simp only [decide_eq_true_eq, decide_eq_false_iff_not] at *; omega)))) | (exfalso; (try simp only [decide_eq_true_eq, decide_eq_false_iff_not] at *); omega)
end Go.Proofs.YtibkggjbkgdnkaaGreat
