/-
  Texts of this proof, one behind the other: NoRoomW.
-/
import Derived.Test.YtibkggjbkgdnkaaGreatPknJ
import Derived.Test.YtibkggjbkgdnkaaGreatPknI
import Derived.Test.YtibkggjbkgdnkaaGreatPknE
set_option linter.unusedVariables false
set_option linter.unusedSimpArgs false

/-
  The law of no room.
-/
namespace Go.Proofs.YtibkggjbkgdnkaaGreat
open Go.RowKit
theorem nr_first {r : ReqM} {us : List Int} {ps : List (List Int × Value)} (hps : ps.map Prod.fst = firstM r us) {i k : Nat} {t s : List Int × Value} (ht : ps[i]? = some t) (hs : ps[k]? = some s) (hki : k < i) : ∃ u tl, t.1 = u :: tl ∧ roomM r s.1 u = false := by
  have hp := first_norm r us
  rw [← hps, List.pairwise_iff_getElem] at hp
  obtain ⟨hi, e1⟩ := List.getElem?_eq_some_iff.1 ht
  obtain ⟨hk, e2⟩ := List.getElem?_eq_some_iff.1 hs
  have := hp k i (by rw [List.length_map]; exact hk) (by rw [List.length_map]; exact hi) hki
  rw [List.getElem_map, List.getElem_map, e1, e2] at this
  exact this
theorem nr_next {r : ReqM} {us : List Int} {ps : List (List Int × Value)} (hps : ps.map Prod.fst = nextM r us) {k : Nat} {t s : List Int × Value} (ht : ps[k + 1]? = some t) (hs : ps[k]? = some s) : ∃ u tl, t.1 = u :: tl ∧ roomM r s.1 u = false := by
  have hp := next_chn r us
  rw [← hps] at hp
  exact hp k s.1 t.1 (by rw [List.getElem?_map, hs]; rfl) (by rw [List.getElem?_map, ht]; rfl)
theorem nr_ne {r : ReqM} {us : List Int} {ps : List (List Int × Value)} (hps : ps.map Prod.fst = firstM r us) {i : Nat} {t : List Int × Value} (ht : ps[i]? = some t) : ∃ u tl, t.1 = u :: tl := by
  have := first_ne r us t.1 (by rw [← hps]; exact List.mem_map_of_mem (List.mem_of_getElem? ht))
  cases h : t.1 with
  | nil => exact absurd h this
  | cons u tl => exact ⟨u, tl, rfl⟩
theorem nr_len {l : List (List Int)} {n : Nat} (hn : (l.map List.length).sum ≤ n) {ps : List (List Int × Value)} (hps : ps.map Prod.fst = l) {i : Nat} {t : List Int × Value} (ht : ps[i]? = some t) : t.1.length ≤ n := by
  have : t.1 ∈ l := by rw [← hps]; exact List.mem_map_of_mem (List.mem_of_getElem? ht)
  have := len_le_sum this
  omega
theorem nr_same {ps ss : List (List Int × Value)} {l : List (List Int)} (hp : ps.map Prod.fst = l) (hs : ss.map Prod.fst = l) {i : Nat} {t s : List Int × Value} (ht : ps[i]? = some t) (h : ss[i]? = some s) : t.1 = s.1 := by
  have e1 : l[i]? = some t.1 := by rw [← hp, List.getElem?_map, ht]; rfl
  have e2 : l[i]? = some s.1 := by rw [← hs, List.getElem?_map, h]; rfl
  rw [e1] at e2
  exact Option.some.inj e2
attribute [local irreducible] Go.wpList Go.Code.wp Go.Exit.then Go.Exit.inBlock Go.bodyPost Go.Calls pE pB G RunsV FnV Fn FnM
set_option maxRecDepth 100000
set_option maxHeartbeats 4000000
theorem sameInts_any {u v : Value} {xs ys : List Int} (w : World) (h : Rd w u 1 (xs.map icell)) (h2 : Rd w v 1 (ys.map icell)) : FnV Tryz.prog 59 [u, v] w (.bool (decide (xs = ys))) := by
  have hle := h.le_map
  have hln : (xs.map icell).length = xs.length := by simp
  have hln2 : (ys.map icell).length = ys.length := by simp
  refine FnV.of (n := 26) Tryz.func59 rfl rfl ?_; refine G.seq (G.region (G.v (rv_assign rfl) rfl (G.done (G.thenN (G.seq (G.seq (G.region (G.v (rv_move rfl) rfl ?_)))))))); refine G.v (rv_len rfl (by exact Rd.stays (by assumption))) rfl ?_; refine G.v (rv_move rfl) rfl ?_; refine G.v (rv_len rfl (by exact Rd.stays (by assumption))) rfl ?_; refine G.v (rv_neq rfl rfl) rfl (G.done (G.thenN ?_)); refine G.cond rfl (fun hc => ?_) (fun hc => ?_)
  · try exact Bool.noConfusion hc
    all_goals
     try replace hc := of_decide_eq_true hc
     try (exfalso; contradiction)
     all_goals
      refine G.seq (G.region (G.v (rv_assign rfl) rfl (G.done (G.thenN (G.ret (G.thenR ?_))))))
      exact G.retFV rfl rfl (eqS_len hc)
  · try exact Bool.noConfusion hc
    all_goals
     try replace hc := of_decide_eq_false hc
     try (exfalso; contradiction)
     all_goals
      refine G.skip (G.thenN (G.seq (G.seq (G.region (G.v (rv_assign rfl) rfl (G.done (G.thenN (G.block ?_))))))))
      -- loop 0: turned [5], kept [0, 1]
      refine G.loopK (ι := Nat) (ks := [0, 1]) (fun k => [(5, .int .i64 k)]) (fun _ => []) (fun k => k ≤ xs.length ∧ xs.take k = ys.take k) (fun k => xs.length - k) 0 (.cons rfl (.cons rfl (.nil))) rfl ?_ ?_ ?_
      · exact ⟨Nat.zero_le _, rfl⟩
      · exact ⟨rfl, trivial⟩
      rintro k ⟨hk, ht⟩
      by_cases hlt : k < xs.length
      case' pos => (obtain ⟨a, ha⟩ := get_of_lt hlt; obtain ⟨b, hb⟩ := get_of_lt (l := ys) (k := k) (by omega); have he := get_map ha icell; have he2 := get_map hb icell)
      all_goals
       refine G.seq (G.seq (G.region (G.v (rv_move rfl) rfl (G.v (rv_move rfl) rfl ?_)))); refine G.v (rv_len rfl (by exact Rd.stays (by assumption))) rfl ?_; refine G.v (rv_lss rfl rfl) rfl (G.done (G.thenN ?_)); refine G.cond rfl (fun hc => ?_) (fun hc => ?_)
       · try exact Bool.noConfusion hc
         all_goals
          try replace hc := of_decide_eq_true hc
          try (exfalso; omega)
          all_goals
           refine G.skip (G.thenN (G.seq (G.block (G.seq ?_)))); refine G.drawL [] ?_; refine GE.q 0 rfl (by as_aux_lemma => kernel_rfl) rfl (qg_runs (rv_move rfl)) rfl ?_; refine GE.q 1 rfl (by as_aux_lemma => kernel_rfl) rfl (qg_runs (rv_move rfl)) rfl ?_; refine GE.q 2 rfl (by as_aux_lemma => kernel_rfl) rfl (qg_runs (rv_indexH rfl rfl (by exact Rd.stays (by assumption)) rfl (by assumption))) rfl ?_; refine GE.q 3 rfl (by as_aux_lemma => kernel_rfl) rfl (qg_runs (rv_loadE rfl (by exact Rd.stays (by assumption)) (by assumption) rfl)) rfl ?_; refine GE.q 4 rfl (by as_aux_lemma => kernel_rfl) rfl (qg_runs (rv_move rfl)) rfl ?_; refine GE.ol 5 (by as_aux_lemma => kernel_rfl) rfl rfl (og_runs (rv_move rfl)) rfl (fun _ _ h => by exact h) (fun _ _ => ?_); refine GE.ol 6 (by as_aux_lemma => kernel_rfl) rfl rfl (og_runs (rv_indexH rfl rfl (by exact Rd.stays (by assumption)) rfl (by assumption))) rfl (fun _ _ h => by exact h) (fun _ _ => ?_); refine GE.ol 7 (by as_aux_lemma => kernel_rfl) rfl rfl (og_runs (rv_loadE rfl (by exact Rd.stays (by assumption)) (by assumption) rfl)) rfl (fun _ _ h => by exact h) (fun _ _ => ?_); refine GE.ol 8 (by as_aux_lemma => kernel_rfl) rfl rfl (og_runs (rv_neq rfl rfl)) rfl (fun _ _ h => by exact h) (fun _ _ => ?_); refine GE.done (by as_aux_lemma => kernel_rfl) ?_; refine G.thenN ?_; refine G.cond rfl (fun hc => ?_) (fun hc => ?_)
           · try exact Bool.noConfusion hc
             all_goals
              try replace hc := of_decide_eq_true hc
              try (exfalso; contradiction)
              all_goals
               refine G.seq (G.region (G.v (rv_assign rfl) rfl (G.done (G.thenN (G.ret (G.inR (G.thenR (G.thenR (G.inR (G.thenR ?_))))))))))
               exact G.retFV rfl rfl (eqS_elt ha hb (by simpa using hc))
           · try exact Bool.noConfusion hc
             all_goals
              try replace hc := of_decide_eq_false hc
              try (exfalso; contradiction)
              all_goals
               refine G.skip (G.inN (G.thenN (G.region (G.v (rv_move rfl) rfl ?_)))); refine G.v (rv_incr rfl rfl (by omega)) rfl ?_; refine G.v (rv_assign rfl) rfl (G.done ?_); refine G.backK (k + 1) 0 rfl (.cons rfl (.cons rfl (.nil))) ?_ ?_ ?_
               · exact ⟨rfl, trivial⟩
               · exact ⟨hlt, eqS_next ht ha hb (by simpa using hc)⟩
               · omega
       · try exact Bool.noConfusion hc
         all_goals
          try replace hc := of_decide_eq_false hc
          try (exfalso; omega)
          all_goals
           refine G.exit (G.thenX (G.thenX (G.inX (G.thenN (G.seq (G.region (G.v (rv_assign rfl) rfl (G.done (G.thenN (G.ret ?_))))))))))
           exact G.retFV rfl rfl (eqS_all ht (by omega) hlt)
theorem fnNoRoom_any {v : Value} {l : List Int} {w : World} (h : Rd w v 1 (l.map bcell)) : FnV Tryz.prog 13 [v] w (.bool true) := by
  refine FnV.of (n := 114) Tryz.func13 rfl rfl ?_; refine G.seq (G.region (G.v (rv_assign rfl) rfl (G.done (G.thenN (G.seq (G.seq (G.region (G.v (rv_move rfl) rfl ?_)))))))); refine G.op (og_callV rfl rfl (fun w hh => big_any w (by exact Rd.stays (by assumption) _ hh))) rfl (fun _ _ => ?_); refine G.done (G.thenN ?_); refine G.cond rfl (fun hc => ?_) (fun hc => ?_)
  · try exact Bool.noConfusion hc
    all_goals
     try replace hc := of_decide_eq_true hc
     try simp only [List.length_map] at hc
     try (exfalso; contradiction)
     all_goals
      refine G.seq (G.region (G.v (rv_assign rfl) rfl (G.done (G.thenN (G.ret (G.thenR ?_))))))
      exact G.retFV rfl rfl rfl
  · try exact Bool.noConfusion hc
    all_goals
     try replace hc := of_decide_eq_false hc
     try simp only [List.length_map] at hc
     try (exfalso; contradiction)
     all_goals
      refine G.skip (G.thenN (G.seq (G.region (G.v (rv_move rfl) rfl ?_))))
      (refine G.op (og_callF4 rfl rfl (fun w hh => dDrawFirstFit_any w (by exact Rd.stays (by assumption) _ hh))) rfl ?_; rintro ⟨⟨⟨r, pv, tv, iv⟩, pv0, es0⟩, lv, us⟩ ⟨hdr, holv, hul⟩; try dsimp only)
      refine G.v (rv_move rfl) rfl ?_
      have hopv := hdr.1.1; have hotv := hdr.1.2.1; have hoiv := hdr.1.2.2; dsimp only at hopv hotv hoiv hul
      refine G.v (rv_extract rfl rfl) rfl (G.v (rv_extract rfl rfl) rfl ?_); refine G.op (og_alloc) rfl (fun bk3 _ => ?_); refine G.op0 (og_st0 rfl rfl rfl rfl rfl (by repeat (first | rfl | refine one_cons (by first | rfl | assumption) ?_)) (.zero (.cons (.cons (.cons (.cons (.cons (.cons (.cons (.cons (.cons (.cons .nil)))))))))))) (fun _ _ => ?_); refine G.v (rv_assign rfl) rfl (G.done (G.thenN (G.seq (G.region (G.v (rv_loadW 0 rfl rfl rfl) rfl (G.v (rv_move rfl) rfl ?_))))))
      (refine G.op (og_callF2 rfl rfl (fun w hh => firstFit_any (r := r) (us := us) w (hdr.2.1 _ (by exact Rd.owned 4 rfl _ hh)) (by exact Rd.owned 3 rfl _ hh) (by exact Rd.owned 2 rfl _ hh) (by exact Rd.owned 1 rfl _ hh) (by omega))) rfl ?_; rintro ⟨vp, ps⟩ ⟨hvp, hps⟩; try dsimp only)
      have ep : (ps.map gcell).length = (firstM r us).length := gl_len hps; have ep2 : ps.length = (firstM r us).length := (by rw [← ep, List.length_map])
      refine G.v (rv_assign rfl) rfl (G.done (G.thenN (G.seq (G.region (G.v (rv_loadW 2 rfl rfl rfl) rfl (G.v (rv_move rfl) rfl ?_))))))
      (refine G.op (og_callF2 rfl rfl (fun w hh => nextFit_any (r := r) (us := us) w (hdr.2.1 _ (by exact Rd.owned 6 rfl _ hh)) (by exact Rd.owned 5 rfl _ hh) (by exact Rd.owned 4 rfl _ hh) (by exact Rd.owned 3 rfl _ hh) (by omega))) rfl ?_; rintro ⟨vo, os⟩ ⟨hvo, hos⟩; try dsimp only)
      have eo : (os.map gcell).length = (nextM r us).length := gl_len hos; have eo2 : os.length = (nextM r us).length := (by rw [← eo, List.length_map])
      have fs := firstM_sum r us
      have fl := first_len48 r us
      have nl := next_len48 r us
      have ns := nextM_sum r us
      refine G.v (rv_assign rfl) rfl (G.done (G.thenN (G.seq (G.seq ?_)))); refine G.drawL [] ?_; refine GE.q 0 rfl (by as_aux_lemma => kernel_rfl) rfl (qg_runs (rv_move rfl)) rfl ?_; refine GE.q 1 rfl (by as_aux_lemma => kernel_rfl) rfl (qg_runs (rv_len rfl (by exact Rd.owned 3 rfl))) rfl ?_; refine GE.q 2 rfl (by as_aux_lemma => kernel_rfl) rfl (qg_runs (rv_loadW 4 rfl rfl rfl)) rfl ?_; refine GE.ol 3 (by as_aux_lemma => kernel_rfl) rfl rfl (og_runs (rv_move rfl)) rfl (fun _ _ h => by exact h) (fun _ _ => ?_)
      (refine GE.ol 4 (by as_aux_lemma => kernel_rfl) rfl rfl (og_callF2 rfl rfl (fun w hh => sfirstFit_any (r := r) (us := us) w (hdr.2.1 _ (by exact Rd.owned 8 rfl _ hh)) (by exact Rd.owned 7 rfl _ hh) (by exact Rd.owned 6 rfl _ hh) (by exact Rd.owned 5 rfl _ hh) (by omega))) rfl (fun _ _ h => by exact h.drop 2) ?_; rintro ⟨vs, ss⟩ ⟨hvs, hss⟩; try dsimp only)
      have es : (ss.map gcell).length = (firstM r us).length := gl_len hss
      refine GE.ol 5 (by as_aux_lemma => kernel_rfl) rfl rfl (og_runs (rv_len rfl (by exact Rd.owned 1 rfl))) rfl (fun _ _ h => by exact h.drop 2) (fun _ _ => ?_); refine GE.ol 6 (by as_aux_lemma => kernel_rfl) rfl rfl (og_runs (rv_neq rfl rfl)) rfl (fun _ _ h => by exact h.drop 2) (fun _ _ => ?_); refine GE.ol 7 (by as_aux_lemma => kernel_rfl) rfl rfl (og_runs (rv_move rfl)) rfl (fun _ _ h => by exact h.drop 2) (fun _ _ => ?_)
      all_goals (((with_reducible refine GE.part (t := 30) rfl (fun hg => ?_) (fun hg => ?_)) <;> (try exact Bool.noConfusion hg) <;> (try (exfalso; (have hq := of_decide_eq_true hg; omega); done)) <;> (refine GE.q2 8 rfl (by as_aux_lemma => kernel_rfl) rfl (qg_runs (rv_move rfl)) (fun _ h => by exact h.drop 2) rfl ?_)))
      all_goals ((refine GE.q2 9 rfl (by as_aux_lemma => kernel_rfl) rfl (qg_runs (rv_len rfl (by exact Rd.owned 1 rfl))) (fun _ h => by exact h.drop 2) rfl ?_))
      all_goals (((refine GE.q2 10 rfl (by as_aux_lemma => kernel_rfl) rfl (qg_runs (rv_loadW 4 rfl rfl rfl)) (fun _ h => by exact h.drop 2) rfl ?_)))
      all_goals (((refine GE.q2 11 rfl (by as_aux_lemma => kernel_rfl) rfl (qg_runs (rv_move rfl)) (fun _ h => by exact h.drop 2) rfl ?_)))
      all_goals (((refine GE.ol 12 (by as_aux_lemma => kernel_rfl) rfl rfl (og_callF2 rfl rfl (fun w hh => snextFit_any (r := r) (us := us) w (hdr.2.1 _ (by exact Rd.owned 10 rfl _ hh)) (by exact Rd.owned 9 rfl _ hh) (by exact Rd.owned 8 rfl _ hh) (by exact Rd.owned 7 rfl _ hh) (by omega))) rfl (fun _ _ h => by exact h.drop 4) ?_; rintro ⟨vq, qs⟩ ⟨hvq, hqs⟩; try dsimp only)))
      all_goals (try (have eq : (qs.map gcell).length = (nextM r us).length := gl_len hqs))
      all_goals (((refine GE.ol 13 (by as_aux_lemma => kernel_rfl) rfl rfl (og_runs (rv_len rfl (by exact Rd.owned 1 rfl))) rfl (fun _ _ h => by exact h.drop 4) (fun _ _ => ?_))))
      all_goals (((refine GE.q2 14 rfl (by as_aux_lemma => kernel_rfl) rfl (qg_runs (rv_neq rfl rfl)) (fun _ h => by exact h.drop 4) rfl ?_)))
      all_goals ((refine GE.ol 15 (by as_aux_lemma => kernel_rfl) rfl rfl (og_runs (rv_pickF rfl rfl)) rfl (fun _ _ h => by exact h.drop 4) (fun _ _ => ?_)))
      all_goals (refine GE.ol 16 (by as_aux_lemma => kernel_rfl) rfl rfl (og_runs (rv_move rfl)) rfl (fun _ _ h => by exact h.drop 4) (fun _ _ => ?_))
      all_goals (((with_reducible refine GE.part (t := 39) rfl (fun hg => ?_) (fun hg => ?_)) <;> (try exact Bool.noConfusion hg) <;> (try (exfalso; (have hq := of_decide_eq_true hg; omega); done)) <;> ((refine GE.q2 17 rfl (by as_aux_lemma => kernel_rfl) rfl (qg_runs (rv_move rfl)) (fun _ h => by exact h.drop 4) rfl ?_))))
      all_goals (((refine GE.q2 18 rfl (by as_aux_lemma => kernel_rfl) rfl (qg_runs (rv_len rfl (by exact Rd.owned 3 rfl))) (fun _ h => by exact h.drop 4) rfl ?_)))
      all_goals (((refine GE.q2 19 rfl (by as_aux_lemma => kernel_rfl) rfl (qg_runs (rv_gtr rfl rfl)) (fun _ h => by exact h.drop 4) rfl ?_)))
      all_goals (((refine GE.q2 20 rfl (by as_aux_lemma => kernel_rfl) rfl (qg_runs (rv_move rfl)) (fun _ h => by exact h.drop 4) rfl ?_)))
      all_goals ((((with_reducible refine GE.part (t := 43) rfl (fun hg => ?_) (fun hg => ?_)) <;> (try exact Bool.noConfusion hg) <;> (try (exfalso; (have hq := of_decide_eq_false hg; omega))) <;> (first | refine GE.q2 21 rfl (by as_aux_lemma => kernel_rfl) rfl (qg_runs (rv_move rfl)) (fun _ h => by exact h.drop 4) rfl ?_ | refine GE.qn2 21 rfl (by as_aux_lemma => kernel_rfl) rfl (fun _ h => by exact h.drop 4) rfl ?_))))
      all_goals (try (have hq0 := of_decide_eq_true hg; obtain ⟨p0, hp0⟩ := get_of_lt (l := ps) (k := 0) (by omega); have he := get_map hp0 gcell; have hgi : (ps.map (sub id))[0]? = some (p0.2, p0.1.map icell) := get_mapS hp0))
      all_goals ((first | (refine GE.q2 22 rfl (by as_aux_lemma => kernel_rfl) rfl (qg_runs (rv_indexH rfl rfl (by exact Rd.owned 3 rfl) rfl (by exact he))) (fun _ h => by exact h.drop 4) rfl ?_) | refine GE.qn2 22 rfl (by as_aux_lemma => kernel_rfl) rfl (fun _ h => by exact h.drop 4) rfl ?_))
      all_goals ((first | refine GE.q2 23 rfl (by as_aux_lemma => kernel_rfl) rfl (qg_runs (rv_loadE rfl (by first | exact Rd.stays (by assumption) | exact Rd.owned 3 rfl) (by exact he) rfl)) (fun _ h => by exact h.drop 4) rfl ?_ | refine GE.qn2 23 rfl (by as_aux_lemma => kernel_rfl) rfl (fun _ h => by exact h.drop 4) rfl ?_))
      all_goals ((first | (refine GE.q2 24 rfl (by as_aux_lemma => kernel_rfl) rfl (qg_runs (rv_loadW 4 rfl rfl rfl)) (fun _ h => by exact h.drop 4) rfl ?_) | refine GE.qn2 24 rfl (by as_aux_lemma => kernel_rfl) rfl (fun _ h => by exact h.drop 4) rfl ?_))
      all_goals ((first | (refine GE.q2 25 rfl (by as_aux_lemma => kernel_rfl) rfl (qg_runs (rv_move rfl)) (fun _ h => by exact h.drop 4) rfl ?_) | refine GE.qn2 25 rfl (by as_aux_lemma => kernel_rfl) rfl (fun _ h => by exact h.drop 4) rfl ?_))
      all_goals ((first | (refine GE.ol 26 (by as_aux_lemma => kernel_rfl) rfl rfl (og_callF2 rfl rfl (fun w hh => sfirstFit_any (r := r) (us := us) w (hdr.2.1 _ (by exact Rd.owned 12 rfl _ hh)) (by exact Rd.owned 11 rfl _ hh) (by exact Rd.owned 10 rfl _ hh) (by exact Rd.owned 9 rfl _ hh) (by omega))) rfl (fun _ _ h => by exact h.drop 6) ?_; rintro ⟨vt, ts⟩ ⟨hvt, hts⟩; try dsimp only) | refine GE.qn2 26 rfl (by as_aux_lemma => kernel_rfl) rfl (fun _ h => by exact h.drop 4) rfl ?_))
      all_goals (try (have et1 : (ts.map gcell).length = (firstM r us).length := gl_len hts; have et2 : ts.length = (firstM r us).length := (by rw [← et1, List.length_map]); have hq1 := (List.getElem?_eq_some_iff.1 hp0).1; obtain ⟨t0, ht0⟩ := get_of_lt (l := ts) (k := 0) (by omega); have he2 := get_map ht0 gcell; have hgi2 : (ts.map (sub id))[0]? = some (t0.2, t0.1.map icell) := get_mapS ht0; have hsm := nr_same hps hts hp0 ht0))
      all_goals ((first | (refine GE.ol 27 (by as_aux_lemma => kernel_rfl) rfl rfl (og_runs (rv_indexH rfl rfl (by exact Rd.owned 1 rfl) rfl (by exact he2))) rfl (fun _ _ h => by exact h.drop 6) (fun _ _ => ?_)) | refine GE.qn2 27 rfl (by as_aux_lemma => kernel_rfl) rfl (fun _ h => by exact h.drop 4) rfl ?_))
      all_goals ((first | (refine GE.ol 28 (by as_aux_lemma => kernel_rfl) rfl rfl (og_runs (rv_loadE rfl (by first | exact Rd.stays (by assumption) | exact Rd.owned 1 rfl) (by exact he2) rfl)) rfl (fun _ _ h => by exact h.drop 6) (fun _ _ => ?_)) | refine GE.qn2 28 rfl (by as_aux_lemma => kernel_rfl) rfl (fun _ h => by exact h.drop 4) rfl ?_))
      all_goals ((first | (refine GE.ol 29 (by as_aux_lemma => kernel_rfl) rfl rfl (og_callF0 rfl rfl (fun w hh => (sameInts_any (xs := p0.1) (ys := t0.1) w (Subs.at (by exact Subs.owned 8 rfl _ hh) hp0) (Subs.at (by exact Subs.owned 0 rfl _ hh) ht0)).toFn)) rfl (fun _ _ h => by exact h.drop 6) ?_; rintro ⟨⟩ _; try dsimp only) | refine GE.qn2 29 rfl (by as_aux_lemma => kernel_rfl) rfl (fun _ h => by exact h.drop 4) rfl ?_))
      all_goals ((first | (refine GE.q2 30 rfl (by as_aux_lemma => kernel_rfl) rfl (qg_runs (rv_not rfl)) (fun _ h => by first | exact h.drop 4 | exact h.drop 6) rfl ?_) | refine GE.qn2 30 rfl (by as_aux_lemma => kernel_rfl) rfl (fun _ h => by exact h.drop 4) rfl ?_))
      all_goals (((first | refine GE.q2 31 rfl (by as_aux_lemma => kernel_rfl) rfl (qg_runs (rv_pickT rfl rfl)) (fun _ h => by first | exact h.drop 4 | exact h.drop 6) rfl ?_ | refine GE.q2 31 rfl (by as_aux_lemma => kernel_rfl) rfl (qg_runs (rv_pickF rfl rfl)) (fun _ h => by exact h.drop 4) rfl ?_)))
      all_goals ((refine GE.ol 32 (by as_aux_lemma => kernel_rfl) rfl rfl (og_runs (rv_pickF rfl rfl)) rfl (fun _ _ h => by first | exact h.drop 4 | exact h.drop 6) (fun _ _ => ?_)))
      all_goals
       refine GE.done (by as_aux_lemma => kernel_rfl) ?_; refine G.thenN ?_; refine G.cond rfl (fun hc => ?_) (fun hc => ?_)
       · try exact Bool.noConfusion hc
         all_goals
          try replace hc := of_decide_eq_true hc
          try simp only [List.length_map] at hc
          try (exfalso; contradiction)
          all_goals
           refine G.seq (G.region (G.v (rv_assign rfl) rfl (G.done (G.thenN (G.ret (G.thenR ?_))))))
           (exfalso; simp_all; done)
       · try exact Bool.noConfusion hc
         all_goals
          try replace hc := of_decide_eq_false hc
          try simp only [List.length_map] at hc
          try (exfalso; contradiction)
          all_goals
           refine G.skip (G.thenN (G.seq (G.seq (G.region (G.v (rv_assign rfl) rfl (G.done (G.thenN (G.block ?_))))))))
           -- loop 0: turned [7], kept [3, 5, 6]
           refine G.loopK (ι := Nat) (ks := [3, 5, 6]) (fun i => [(7, .int .i64 (i : Int))]) (fun _ => []) (fun i => i ≤ ps.length) (fun i => ps.length - i) 0 (.cons rfl (.cons rfl (.cons rfl (.nil)))) rfl ?_ ?_ ?_
           · exact Nat.zero_le _
           · exact ⟨rfl, trivial⟩
           rintro i hi
           by_cases hlt : i < ps.length
           case' pos => (obtain ⟨t, ht⟩ := get_of_lt hlt; have he := get_map ht gcell; have hgi : (ps.map (sub id))[i]? = some (t.2, t.1.map icell) := get_mapS ht; obtain ⟨u, tl, htu⟩ := nr_ne hps ht; have hu : (t.1.map icell)[0]? = some (icell u) := (by rw [htu]; rfl); have hne : (t.1.map icell).length = tl.length + 1 := (by rw [htu]; simp))
           all_goals
            refine G.seq (G.seq (G.region (G.v (rv_move rfl) rfl (G.v (rv_move rfl) rfl ?_)))); refine G.v (rv_len rfl (by first | exact Rd.owned 7 rfl | exact Rd.owned 9 rfl)) rfl ?_; refine G.v (rv_lss rfl rfl) rfl (G.done (G.thenN ?_)); refine G.cond rfl (fun hc => ?_) (fun hc => ?_)
            · try exact Bool.noConfusion hc
              all_goals
               try replace hc := of_decide_eq_true hc
               try simp only [List.length_map] at hc
               try (exfalso; omega)
               all_goals
                refine G.skip (G.thenN (G.seq (G.block (G.seq (G.region (G.v (rv_assign rfl) rfl (G.done (G.thenN (G.block ?_)))))))))
                -- loop 1: turned [8], kept [3, 5, 6, 7]
                refine G.loopK (ι := Nat) (ks := [3, 5, 6, 7]) (fun k => [(8, .int .i64 (k : Int))]) (fun _ => []) (fun k => k ≤ i) (fun k => i - k) 0 (.cons rfl (.cons rfl (.cons rfl (.cons rfl (.nil))))) rfl ?_ ?_ ?_
                · exact Nat.zero_le _
                · exact ⟨rfl, trivial⟩
                rintro k hk
                by_cases hlt2 : k < i
                case' pos => (obtain ⟨s, hs⟩ := get_of_lt (l := ps) (k := k) (by omega); have he2 := get_map hs gcell; have hsl := nr_len fs hps hs; obtain ⟨u2, tl2, htu2, hroom⟩ := nr_first hps ht hs hlt2; rw [htu] at htu2; obtain ⟨rfl, rfl⟩ := List.cons.inj htu2)
                all_goals
                 refine G.seq (G.seq (G.region (G.v (rv_move rfl) rfl (G.v (rv_move rfl) rfl (G.v (rv_lss rfl rfl) rfl (G.done (G.thenN ?_))))))); refine G.cond rfl (fun hc => ?_) (fun hc => ?_)
                 · try exact Bool.noConfusion hc
                   all_goals
                    try replace hc := of_decide_eq_true hc
                    try simp only [List.length_map] at hc
                    try (exfalso; omega)
                    all_goals
                     refine G.skip (G.thenN (G.seq (G.block (G.seq ?_)))); refine G.drawL [] ?_; refine GE.q 0 rfl (by as_aux_lemma => kernel_rfl) rfl (qg_runs (rv_move rfl)) rfl ?_; refine GE.ol 1 (by as_aux_lemma => kernel_rfl) rfl rfl (og_runs (rv_move rfl)) rfl (fun _ _ h => by exact h) (fun _ _ => ?_); refine GE.ol 2 (by as_aux_lemma => kernel_rfl) rfl rfl (og_runs (rv_indexH rfl rfl (by first | exact Rd.owned 7 rfl | exact Rd.owned 9 rfl) rfl (by exact he))) rfl (fun _ _ h => by exact h) (fun _ _ => ?_); refine GE.ol 3 (by as_aux_lemma => kernel_rfl) rfl rfl (og_runs (rv_loadE rfl (by first | exact Rd.owned 7 rfl | exact Rd.owned 9 rfl) (by exact he) rfl)) rfl (fun _ _ h => by exact h) (fun _ _ => ?_); refine GE.ol 4 (by as_aux_lemma => kernel_rfl) rfl rfl (og_runs (rv_len rfl (by first | exact Rd.grp 6 rfl (List.mem_of_getElem? hgi) | exact Rd.grp 8 rfl (List.mem_of_getElem? hgi)))) rfl (fun _ _ h => by exact h) (fun _ _ => ?_); refine GE.ol 5 (by as_aux_lemma => kernel_rfl) rfl rfl (og_runs (rv_eql rfl rfl)) rfl (fun _ _ h => by exact h) (fun _ _ => ?_); refine GE.ol 6 (by as_aux_lemma => kernel_rfl) rfl rfl (og_runs (rv_move rfl)) rfl (fun _ _ h => by exact h) (fun _ _ => ?_)
                     all_goals (((with_reducible refine GE.part (t := 73) rfl (fun hg => ?_) (fun hg => ?_)) <;> (try exact Bool.noConfusion hg) <;> (try (exfalso; (have hq := of_decide_eq_true hg; omega); done)) <;> ((first | refine GE.q 7 rfl (by as_aux_lemma => kernel_rfl) rfl (qg_runs (rv_loadW 8 rfl rfl rfl)) rfl ?_ | refine GE.q 7 rfl (by as_aux_lemma => kernel_rfl) rfl (qg_runs (rv_loadW 10 rfl rfl rfl)) rfl ?_))))
                     all_goals ((refine GE.q 8 rfl (by as_aux_lemma => kernel_rfl) rfl (qg_runs (rv_move rfl)) rfl ?_))
                     all_goals ((refine GE.q 9 rfl (by as_aux_lemma => kernel_rfl) rfl (qg_runs (rv_move rfl)) rfl ?_))
                     all_goals (((refine GE.q 10 rfl (by as_aux_lemma => kernel_rfl) rfl (qg_runs (rv_indexH rfl rfl (by first | exact Rd.owned 7 rfl | exact Rd.owned 9 rfl) rfl (by exact he2))) rfl ?_)))
                     all_goals ((refine GE.q 11 rfl (by as_aux_lemma => kernel_rfl) rfl (qg_runs (rv_loadE rfl (by first | exact Rd.owned 7 rfl | exact Rd.owned 9 rfl) (by exact he2) rfl)) rfl ?_))
                     all_goals ((refine GE.q 12 rfl (by as_aux_lemma => kernel_rfl) rfl (qg_runs (rv_move rfl)) rfl ?_))
                     all_goals ((refine GE.q 13 rfl (by as_aux_lemma => kernel_rfl) rfl (qg_runs (rv_move rfl)) rfl ?_))
                     all_goals (((refine GE.q 14 rfl (by as_aux_lemma => kernel_rfl) rfl (qg_runs (rv_indexH rfl rfl (by first | exact Rd.owned 7 rfl | exact Rd.owned 9 rfl) rfl (by exact he))) rfl ?_)))
                     all_goals ((refine GE.q 15 rfl (by as_aux_lemma => kernel_rfl) rfl (qg_runs (rv_loadE rfl (by first | exact Rd.owned 7 rfl | exact Rd.owned 9 rfl) (by exact he) rfl)) rfl ?_))
                     all_goals (((refine GE.q 16 rfl (by as_aux_lemma => kernel_rfl) rfl (qg_runs (rv_indexH rfl rfl (by first | exact Rd.grp 6 rfl (List.mem_of_getElem? hgi) | exact Rd.grp 8 rfl (List.mem_of_getElem? hgi)) rfl (by exact hu))) rfl ?_)))
                     all_goals ((refine GE.q 17 rfl (by as_aux_lemma => kernel_rfl) rfl (qg_runs (rv_loadE rfl (by first | exact Rd.grp 6 rfl (List.mem_of_getElem? hgi) | exact Rd.grp 8 rfl (List.mem_of_getElem? hgi)) (by exact hu) rfl)) rfl ?_))
                     all_goals ((refine GE.q 18 rfl (by as_aux_lemma => kernel_rfl) rfl (qg_call rfl rfl (fun w hh => room_any (r := r) (us := s.1) w (hdr.2.1 _ (by first | exact Rd.owned 12 rfl _ hh | exact Rd.owned 14 rfl _ hh)) (by first | exact Rd.owned 11 rfl _ hh | exact Rd.owned 13 rfl _ hh) (by first | exact Rd.owned 10 rfl _ hh | exact Rd.owned 12 rfl _ hh) (Subs.at (by first | exact Subs.owned 6 rfl _ hh | exact Subs.owned 8 rfl _ hh) hs) (by omega) u)) rfl ?_))
                     all_goals ((refine GE.ol 19 (by as_aux_lemma => kernel_rfl) rfl rfl (og_runs (rv_pickF rfl rfl)) rfl (fun _ _ h => by exact h) (fun _ _ => ?_)))
                     all_goals
                      refine GE.done (by as_aux_lemma => kernel_rfl) ?_; refine G.thenN ?_; refine G.cond rfl (fun hc => ?_) (fun hc => ?_)
                      · try exact Bool.noConfusion hc
                        all_goals
                         try replace hc := of_decide_eq_true hc
                         try simp only [List.length_map] at hc
                         try (exfalso; contradiction)
                         all_goals
                          refine G.seq (G.region (G.v (rv_assign rfl) rfl (G.done (G.thenN (G.ret (G.inR (G.thenR (G.thenR (G.inR (G.inR (G.thenR ?_))))))))))); refine G.thenR (G.inR (G.thenR ?_))
                          (exfalso; simp_all; done)
                      · try exact Bool.noConfusion hc
                        all_goals
                         try replace hc := of_decide_eq_false hc
                         try simp only [List.length_map] at hc
                         try (exfalso; contradiction)
                         all_goals
                          refine G.skip (G.inN (G.thenN (G.region (G.v (rv_move rfl) rfl ?_)))); refine G.v (rv_incr rfl rfl (by omega)) rfl ?_; refine G.v (rv_assign rfl) rfl (G.done ?_); refine G.backK (k + 1) 0 rfl (.cons rfl (.cons rfl (.cons rfl (.cons rfl (.nil))))) ?_ ?_ ?_
                          · exact ⟨rfl, trivial⟩
                          · exact hlt2
                          · omega
                 · try exact Bool.noConfusion hc
                   all_goals
                    try replace hc := of_decide_eq_false hc
                    try simp only [List.length_map] at hc
                    try (exfalso; omega)
                    all_goals
                     refine G.exit (G.thenX (G.thenX (G.inX (G.inN (G.thenN (G.region (G.v (rv_move rfl) rfl ?_))))))); refine G.v (rv_incr rfl rfl (by omega)) rfl ?_; refine G.v (rv_assign rfl) rfl (G.done ?_); refine G.backK (i + 1) 0 rfl (.cons rfl (.cons rfl (.cons rfl (.nil)))) ?_ ?_ ?_
                     · exact ⟨rfl, trivial⟩
                     · exact hlt
                     · omega
            · try exact Bool.noConfusion hc
              all_goals
               try replace hc := of_decide_eq_false hc
               try simp only [List.length_map] at hc
               try (exfalso; omega)
               all_goals
                refine G.exit (G.thenX (G.thenX (G.inX (G.thenN (G.seq (G.seq (G.region (G.v (rv_assign rfl) rfl (G.done (G.thenN (G.block ?_)))))))))))
                -- loop 2: turned [9], kept [3, 6]
                refine G.loopK (ι := Nat) (ks := [3, 6]) (fun i => [(9, .int .i64 ((i + 1 : Nat) : Int))]) (fun _ => []) (fun i => i ≤ os.length) (fun i => os.length - i) 0 (.cons rfl (.cons rfl (.nil))) rfl ?_ ?_ ?_
                · exact Nat.zero_le _
                · exact ⟨rfl, trivial⟩
                rintro i hi
                by_cases hlt : i + 1 < os.length
                case' pos => (obtain ⟨t, ht⟩ := get_of_lt hlt; have he := get_map ht gcell; have hgi : (os.map (sub id))[i + 1]? = some (t.2, t.1.map icell) := get_mapS ht; obtain ⟨s, hs⟩ := get_of_lt (l := os) (k := i) (by omega); have he2 := get_map hs gcell; have hsl := nr_len ns hos hs; obtain ⟨u, tl, htu, hroom⟩ := nr_next hos ht hs; have hu : (t.1.map icell)[0]? = some (icell u) := (by rw [htu]; rfl); have hne : (t.1.map icell).length = tl.length + 1 := (by rw [htu]; simp))
                all_goals
                 refine G.seq (G.seq (G.region (G.v (rv_move rfl) rfl (G.v (rv_move rfl) rfl ?_)))); refine G.v (rv_len rfl (by first | exact Rd.owned 5 rfl | exact Rd.owned 7 rfl)) rfl ?_; refine G.v (rv_lss rfl rfl) rfl (G.done (G.thenN ?_)); refine G.cond rfl (fun hc => ?_) (fun hc => ?_)
                 · try exact Bool.noConfusion hc
                   all_goals
                    try replace hc := of_decide_eq_true hc
                    try simp only [List.length_map] at hc
                    try (exfalso; omega)
                    all_goals
                     refine G.skip (G.thenN (G.seq (G.block (G.seq ?_)))); refine G.drawL [] ?_; refine GE.q 0 rfl (by as_aux_lemma => kernel_rfl) rfl (qg_runs (rv_move rfl)) rfl ?_; refine GE.ol 1 (by as_aux_lemma => kernel_rfl) rfl rfl (og_runs (rv_move rfl)) rfl (fun _ _ h => by exact h) (fun _ _ => ?_); refine GE.ol 2 (by as_aux_lemma => kernel_rfl) rfl rfl (og_runs (rv_indexH rfl rfl (by first | exact Rd.owned 5 rfl | exact Rd.owned 7 rfl) rfl (by exact he))) rfl (fun _ _ h => by exact h) (fun _ _ => ?_); refine GE.ol 3 (by as_aux_lemma => kernel_rfl) rfl rfl (og_runs (rv_loadE rfl (by first | exact Rd.owned 5 rfl | exact Rd.owned 7 rfl) (by exact he) rfl)) rfl (fun _ _ h => by exact h) (fun _ _ => ?_); refine GE.ol 4 (by as_aux_lemma => kernel_rfl) rfl rfl (og_runs (rv_len rfl (by first | exact Rd.grp 4 rfl (List.mem_of_getElem? hgi) | exact Rd.grp 6 rfl (List.mem_of_getElem? hgi)))) rfl (fun _ _ h => by exact h) (fun _ _ => ?_); refine GE.ol 5 (by as_aux_lemma => kernel_rfl) rfl rfl (og_runs (rv_eql rfl rfl)) rfl (fun _ _ h => by exact h) (fun _ _ => ?_); refine GE.ol 6 (by as_aux_lemma => kernel_rfl) rfl rfl (og_runs (rv_move rfl)) rfl (fun _ _ h => by exact h) (fun _ _ => ?_)
                     all_goals (((with_reducible refine GE.part (t := 99) rfl (fun hg => ?_) (fun hg => ?_)) <;> (try exact Bool.noConfusion hg) <;> (try (exfalso; (have hq := of_decide_eq_true hg; omega); done)) <;> ((first | refine GE.q 7 rfl (by as_aux_lemma => kernel_rfl) rfl (qg_runs (rv_loadW 8 rfl rfl rfl)) rfl ?_ | refine GE.q 7 rfl (by as_aux_lemma => kernel_rfl) rfl (qg_runs (rv_loadW 10 rfl rfl rfl)) rfl ?_))))
                     all_goals ((refine GE.q 8 rfl (by as_aux_lemma => kernel_rfl) rfl (qg_runs (rv_move rfl)) rfl ?_))
                     all_goals ((refine GE.q 9 rfl (by as_aux_lemma => kernel_rfl) rfl (qg_runs (rv_move rfl)) rfl ?_))
                     all_goals ((refine GE.q 10 rfl (by as_aux_lemma => kernel_rfl) rfl (qg_runs (rv_subB rfl rfl (by omega) (by omega))) rfl ?_))
                     all_goals (((refine GE.q 11 rfl (by as_aux_lemma => kernel_rfl) rfl (qg_runs (rv_indexH (k := i) rfl rfl (by first | exact Rd.owned 5 rfl | exact Rd.owned 7 rfl) (by omega) he2)) rfl ?_)))
                     all_goals ((refine GE.q 12 rfl (by as_aux_lemma => kernel_rfl) rfl (qg_runs (rv_loadE rfl (by first | exact Rd.owned 5 rfl | exact Rd.owned 7 rfl) (by exact he2) rfl)) rfl ?_))
                     all_goals ((refine GE.q 13 rfl (by as_aux_lemma => kernel_rfl) rfl (qg_runs (rv_move rfl)) rfl ?_))
                     all_goals ((refine GE.q 14 rfl (by as_aux_lemma => kernel_rfl) rfl (qg_runs (rv_move rfl)) rfl ?_))
                     all_goals (((refine GE.q 15 rfl (by as_aux_lemma => kernel_rfl) rfl (qg_runs (rv_indexH rfl rfl (by first | exact Rd.owned 5 rfl | exact Rd.owned 7 rfl) rfl (by exact he))) rfl ?_)))
                     all_goals ((refine GE.q 16 rfl (by as_aux_lemma => kernel_rfl) rfl (qg_runs (rv_loadE rfl (by first | exact Rd.owned 5 rfl | exact Rd.owned 7 rfl) (by exact he) rfl)) rfl ?_))
                     all_goals (((refine GE.q 17 rfl (by as_aux_lemma => kernel_rfl) rfl (qg_runs (rv_indexH rfl rfl (by first | exact Rd.grp 4 rfl (List.mem_of_getElem? hgi) | exact Rd.grp 6 rfl (List.mem_of_getElem? hgi)) rfl (by exact hu))) rfl ?_)))
                     all_goals ((refine GE.q 18 rfl (by as_aux_lemma => kernel_rfl) rfl (qg_runs (rv_loadE rfl (by first | exact Rd.grp 4 rfl (List.mem_of_getElem? hgi) | exact Rd.grp 6 rfl (List.mem_of_getElem? hgi)) (by exact hu) rfl)) rfl ?_))
                     all_goals ((refine GE.q 19 rfl (by as_aux_lemma => kernel_rfl) rfl (qg_call rfl rfl (fun w hh => room_any (r := r) (us := s.1) w (hdr.2.1 _ (by first | exact Rd.owned 12 rfl _ hh | exact Rd.owned 14 rfl _ hh)) (by first | exact Rd.owned 11 rfl _ hh | exact Rd.owned 13 rfl _ hh) (by first | exact Rd.owned 10 rfl _ hh | exact Rd.owned 12 rfl _ hh) (Subs.at (by first | exact Subs.owned 4 rfl _ hh | exact Subs.owned 6 rfl _ hh) hs) (by omega) u)) rfl ?_))
                     all_goals ((refine GE.ol 20 (by as_aux_lemma => kernel_rfl) rfl rfl (og_runs (rv_pickF rfl rfl)) rfl (fun _ _ h => by exact h) (fun _ _ => ?_)))
                     all_goals
                      refine GE.done (by as_aux_lemma => kernel_rfl) ?_; refine G.thenN ?_; refine G.cond rfl (fun hc => ?_) (fun hc => ?_)
                      · try exact Bool.noConfusion hc
                        all_goals
                         try replace hc := of_decide_eq_true hc
                         try simp only [List.length_map] at hc
                         try (exfalso; contradiction)
                         all_goals
                          refine G.seq (G.region (G.v (rv_assign rfl) rfl (G.done (G.thenN (G.ret (G.inR (G.thenR (G.thenR (G.inR (G.thenR ?_))))))))))
                          (exfalso; simp_all; done)
                      · try exact Bool.noConfusion hc
                        all_goals
                         try replace hc := of_decide_eq_false hc
                         try simp only [List.length_map] at hc
                         try (exfalso; contradiction)
                         all_goals
                          refine G.skip (G.inN (G.thenN (G.region (G.v (rv_move rfl) rfl ?_)))); refine G.v (rv_incr rfl rfl (by omega)) rfl ?_; refine G.v (rv_assign rfl) rfl (G.done ?_); refine G.backK (i + 1) 0 rfl (.cons rfl (.cons rfl (.nil))) ?_ ?_ ?_
                          · exact ⟨congrArg (fun z => some (Value.int .i64 z)) (by omega), trivial⟩
                          · omega
                          · omega
                 · try exact Bool.noConfusion hc
                   all_goals
                    try replace hc := of_decide_eq_false hc
                    try simp only [List.length_map] at hc
                    try (exfalso; omega)
                    all_goals
                     refine G.exit (G.thenX (G.thenX (G.inX (G.thenN (G.seq (G.region (G.v (rv_assign rfl) rfl (G.done (G.thenN (G.ret ?_))))))))))
                     exact G.retFV rfl rfl rfl
end Go.Proofs.YtibkggjbkgdnkaaGreat
