/-
  The names of an order, the reference's way.
-/
import Derived.Test.YtpmphkcibiimcaaGreatReq7
namespace Go.Proofs.YtpmphkcibiimcaaGreat
open Go.RowKit
attribute [local irreducible] Go.wpList Go.Code.wp Go.Exit.then Go.Exit.inBlock Go.bodyPost Go.Calls pE pB G RunsV FnV Fn FnM
set_option maxRecDepth 100000
set_option maxHeartbeats 1000000
theorem pairIn_no {r : ReqM} {p : PairM} (h : p.a ≥ r.classes ∨ p.b ≥ r.classes) : pairIn r p = false := by
  rw [pairIn]; rcases h with h | h <;> simp [h]
theorem pairIn_yes {r : ReqM} {p : PairM} (h : ¬ p.a ≥ r.classes) (h2 : ¬ p.b ≥ r.classes) : pairIn r p = true := by
  rw [pairIn, decide_eq_false h, decide_eq_false h2]; rfl
theorem snamesOk_any {r : ReqM} {pv tv iv : Value} (w : World) (h : Rd w pv 2 (r.pairs.map PairM.cells)) (h2 : Rd w tv 7 (r.types.map TypeM.cells)) (h3 : Rd w iv 7 (r.items.map ItemM.cells)) :
    FnV Tryz.prog 69 [.agg (r.cells pv tv iv).toArray] w (.bool (namesM r)) := by
  have hle := h.le_map
  have hle2 := h2.le_map
  have hle3 := h3.le_map
  refine FnV.of (n := 102) Tryz.func69 rfl rfl ?_
  refine G.seq ?_
  refine G.region ?_
  refine G.op (og_box rfl rfl) rfl (fun bk1 _ => ?_)
  refine G.v (rv_assign rfl) rfl ?_
  refine G.done ?_
  refine G.thenN ?_
  refine G.seq ?_
  refine G.seq ?_
  refine G.region ?_
  refine G.v (rv_assign rfl) rfl ?_
  refine G.done ?_
  refine G.thenN ?_
  refine G.block ?_
  -- loop 0: turned [3], kept [1]
  refine G.loopK (ι := Nat) (ks := [1]) (fun k => [(3, .int .i64 k)]) (fun _ => []) (fun k => k ≤ r.types.length ∧ (List.range k).all (fun i => !dupAt TypeM.id r.types i) = true) (fun k => r.types.length - k) 0 (.cons rfl (.nil)) rfl ?_ ?_ ?_
  · exact ⟨Nat.zero_le _, rfl⟩
  · exact ⟨rfl, trivial⟩
  rintro k ⟨hk, ht⟩
  by_cases hlt : k < r.types.length
  case' pos => (obtain ⟨b, hb⟩ := get_of_lt hlt; have he := get_map hb TypeM.cells)
  case' neg => (have hall : (List.range r.types.length).all (fun i => !dupAt TypeM.id r.types i) = true := (by rwa [show k = r.types.length by omega] at ht))
  all_goals
   refine G.seq ?_
   refine G.seq ?_
   refine G.region ?_
   refine G.v (rv_move rfl) rfl ?_
   (first | refine G.v (rv_field rfl) rfl ?_ | refine G.v (rv_fieldE rfl) rfl ?_)
   (first | refine G.v (rv_load1 0 rfl rfl rfl) rfl ?_ | refine G.v (rv_load1 1 rfl rfl rfl) rfl ?_ | refine G.v (rv_load1 2 rfl rfl rfl) rfl ?_)
   refine G.v (rv_len rfl (by first | exact Rd.stays (by assumption) | exact Rd.owned 0 rfl | exact Rd.owned 1 rfl | exact Rd.owned 2 rfl)) rfl ?_
   refine G.v (rv_lss rfl rfl) rfl ?_
   refine G.done ?_
   refine G.thenN ?_
   refine G.cond rfl (fun hc => ?_) (fun hc => ?_)
   · try exact Bool.noConfusion hc
     all_goals
      try replace hc := of_decide_eq_true hc
      try simp only [List.length_map] at hc
      try (exfalso; first | contradiction | omega)
      all_goals
       refine G.skip ?_
       refine G.thenN ?_
       refine G.seq ?_
       refine G.block ?_
       refine G.seq ?_
       refine G.region ?_
       refine G.v (rv_assign rfl) rfl ?_
       refine G.done ?_
       refine G.thenN ?_
       refine G.block ?_
       -- loop 1: turned [4], kept [1, 3]
       refine G.loopK (ι := Nat) (ks := [1, 3]) (fun k => [(4, .int .i64 k)]) (fun _ => []) (fun j => j ≤ k ∧ (r.types.take j).any (fun q => decide (q.id = b.id)) = false) (fun j => k - j) 0 (.cons rfl (.cons rfl (.nil))) rfl ?_ ?_ ?_
       · exact ⟨Nat.zero_le _, rfl⟩
       · exact ⟨rfl, trivial⟩
       rintro j ⟨hj, htj⟩
       by_cases hltj : j < k
       case' pos => (obtain ⟨q, hq⟩ := get_of_lt (l := r.types) (k := j) (by omega); have he2 := get_map hq TypeM.cells)
       all_goals
        refine G.seq ?_
        refine G.seq ?_
        refine G.region ?_
        refine G.v (rv_move rfl) rfl ?_
        refine G.v (rv_move rfl) rfl ?_
        refine G.v (rv_lss rfl rfl) rfl ?_
        refine G.done ?_
        refine G.thenN ?_
        refine G.cond rfl (fun hc => ?_) (fun hc => ?_)
        · try exact Bool.noConfusion hc
          all_goals
           try replace hc := of_decide_eq_true hc
           try simp only [List.length_map] at hc
           try (exfalso; first | contradiction | omega)
           all_goals
            refine G.skip ?_
            refine G.thenN ?_
            refine G.seq ?_
            refine G.block ?_
            refine G.seq ?_
            refine G.drawL [] ?_
            (first | refine GE.q 0 rfl (by as_aux_lemma => kernel_rfl) rfl (qg_runs (rv_field rfl)) rfl ?_ | refine GE.q 0 rfl (by as_aux_lemma => kernel_rfl) rfl (qg_runs (rv_fieldE rfl)) rfl ?_)
            (first | refine GE.q 1 rfl (by as_aux_lemma => kernel_rfl) rfl (qg_runs (rv_load1 0 rfl rfl rfl)) rfl ?_ | refine GE.q 1 rfl (by as_aux_lemma => kernel_rfl) rfl (qg_runs (rv_load1 1 rfl rfl rfl)) rfl ?_ | refine GE.q 1 rfl (by as_aux_lemma => kernel_rfl) rfl (qg_runs (rv_load1 2 rfl rfl rfl)) rfl ?_)
            refine GE.q 2 rfl (by as_aux_lemma => kernel_rfl) rfl (qg_runs (rv_move rfl)) rfl ?_
            (first | refine GE.q 3 rfl (by as_aux_lemma => kernel_rfl) rfl (qg_runs (rv_indexH rfl rfl (by first | exact Rd.stays (by assumption) | exact Rd.owned 0 rfl | exact Rd.owned 1 rfl | exact Rd.owned 2 rfl) rfl (by first | exact he | exact he2))) rfl ?_ | refine GE.q 3 rfl (by as_aux_lemma => kernel_rfl) rfl (qg_runs (rv_index rfl rfl (by first | exact Rd.stays (by assumption) | exact Rd.owned 0 rfl | exact Rd.owned 1 rfl | exact Rd.owned 2 rfl) rfl (by assumption))) rfl ?_)
            (first | refine GE.q 4 rfl (by as_aux_lemma => kernel_rfl) rfl (qg_runs (rv_field rfl)) rfl ?_ | refine GE.q 4 rfl (by as_aux_lemma => kernel_rfl) rfl (qg_runs (rv_fieldE rfl)) rfl ?_)
            refine GE.q 5 rfl (by as_aux_lemma => kernel_rfl) rfl (qg_runs (rv_loadE rfl (by first | exact Rd.stays (by assumption) | exact Rd.owned 0 rfl | exact Rd.owned 1 rfl | exact Rd.owned 2 rfl) (by first | exact he | exact he2) rfl)) rfl ?_
            (first | refine GE.q 6 rfl (by as_aux_lemma => kernel_rfl) rfl (qg_runs (rv_field rfl)) rfl ?_ | refine GE.q 6 rfl (by as_aux_lemma => kernel_rfl) rfl (qg_runs (rv_fieldE rfl)) rfl ?_)
            (first | refine GE.q 7 rfl (by as_aux_lemma => kernel_rfl) rfl (qg_runs (rv_load1 0 rfl rfl rfl)) rfl ?_ | refine GE.q 7 rfl (by as_aux_lemma => kernel_rfl) rfl (qg_runs (rv_load1 1 rfl rfl rfl)) rfl ?_ | refine GE.q 7 rfl (by as_aux_lemma => kernel_rfl) rfl (qg_runs (rv_load1 2 rfl rfl rfl)) rfl ?_)
            refine GE.ol 8 (by as_aux_lemma => kernel_rfl) rfl rfl (og_runs (rv_move rfl)) rfl (fun _ _ h => by first | exact h | exact h.drop 1 | exact h.drop 2 | exact h.drop 3 | exact h.drop 4 | exact h.drop 5 | exact h.drop 6 | exact h.drop 7 | exact h.drop 8 | exact h.drop 9 | exact h.drop 10 | exact h.drop 11 | exact h.drop 12 | exact h.drop 13) (fun _ _ => ?_)
            (first | refine GE.ol 9 (by as_aux_lemma => kernel_rfl) rfl rfl (og_runs (rv_indexH rfl rfl (by first | exact Rd.stays (by assumption) | exact Rd.owned 0 rfl | exact Rd.owned 1 rfl | exact Rd.owned 2 rfl) rfl (by first | exact he | exact he2))) rfl (fun _ _ h => by first | exact h | exact h.drop 1 | exact h.drop 2 | exact h.drop 3 | exact h.drop 4 | exact h.drop 5 | exact h.drop 6 | exact h.drop 7 | exact h.drop 8 | exact h.drop 9 | exact h.drop 10 | exact h.drop 11 | exact h.drop 12 | exact h.drop 13) (fun _ _ => ?_) | refine GE.ol 9 (by as_aux_lemma => kernel_rfl) rfl rfl (og_runs (rv_index rfl rfl (by first | exact Rd.stays (by assumption) | exact Rd.owned 0 rfl | exact Rd.owned 1 rfl | exact Rd.owned 2 rfl) rfl (by assumption))) rfl (fun _ _ h => by first | exact h | exact h.drop 1 | exact h.drop 2 | exact h.drop 3 | exact h.drop 4 | exact h.drop 5 | exact h.drop 6 | exact h.drop 7 | exact h.drop 8 | exact h.drop 9 | exact h.drop 10 | exact h.drop 11 | exact h.drop 12 | exact h.drop 13) (fun _ _ => ?_))
            (first | refine GE.ol 10 (by as_aux_lemma => kernel_rfl) rfl rfl (og_runs (rv_field rfl)) rfl (fun _ _ h => by first | exact h | exact h.drop 1 | exact h.drop 2 | exact h.drop 3 | exact h.drop 4 | exact h.drop 5 | exact h.drop 6 | exact h.drop 7 | exact h.drop 8 | exact h.drop 9 | exact h.drop 10 | exact h.drop 11 | exact h.drop 12 | exact h.drop 13) (fun _ _ => ?_) | refine GE.ol 10 (by as_aux_lemma => kernel_rfl) rfl rfl (og_runs (rv_fieldE rfl)) rfl (fun _ _ h => by first | exact h | exact h.drop 1 | exact h.drop 2 | exact h.drop 3 | exact h.drop 4 | exact h.drop 5 | exact h.drop 6 | exact h.drop 7 | exact h.drop 8 | exact h.drop 9 | exact h.drop 10 | exact h.drop 11 | exact h.drop 12 | exact h.drop 13) (fun _ _ => ?_))
            refine GE.ol 11 (by as_aux_lemma => kernel_rfl) rfl rfl (og_runs (rv_loadE rfl (by first | exact Rd.stays (by assumption) | exact Rd.owned 0 rfl | exact Rd.owned 1 rfl | exact Rd.owned 2 rfl) (by first | exact he | exact he2) rfl)) rfl (fun _ _ h => by first | exact h | exact h.drop 1 | exact h.drop 2 | exact h.drop 3 | exact h.drop 4 | exact h.drop 5 | exact h.drop 6 | exact h.drop 7 | exact h.drop 8 | exact h.drop 9 | exact h.drop 10 | exact h.drop 11 | exact h.drop 12 | exact h.drop 13) (fun _ _ => ?_)
            refine GE.ol 12 (by as_aux_lemma => kernel_rfl) rfl rfl (og_runs (rv_eql rfl rfl)) rfl (fun _ _ h => by first | exact h | exact h.drop 1 | exact h.drop 2 | exact h.drop 3 | exact h.drop 4 | exact h.drop 5 | exact h.drop 6 | exact h.drop 7 | exact h.drop 8 | exact h.drop 9 | exact h.drop 10 | exact h.drop 11 | exact h.drop 12 | exact h.drop 13) (fun _ _ => ?_)
            refine GE.done (by as_aux_lemma => kernel_rfl) ?_
            refine G.thenN ?_
            refine G.cond rfl (fun hc => ?_) (fun hc => ?_)
            · try exact Bool.noConfusion hc
              all_goals
               try replace hc := of_decide_eq_true hc
               try simp only [List.length_map] at hc
               try (exfalso; first | contradiction | omega)
               all_goals
                refine G.seq ?_
                refine G.region ?_
                refine G.v (rv_assign rfl) rfl ?_
                refine G.done ?_
                refine G.thenN ?_
                refine G.ret ?_
                refine G.inR ?_
                refine G.thenR ?_
                refine G.thenR ?_
                refine G.inR ?_
                refine G.inR ?_
                refine G.thenR ?_
                refine G.thenR ?_
                refine G.inR ?_
                refine G.thenR ?_
                first | (refine G.retFV rfl rfl (congrArg Value.bool ?_); rw [namesM, hall, hall1, hall4]; simp; done) | (refine G.retFV rfl rfl (congrArg Value.bool ?_); rw [namesM, all_no hb4 (pairIn_no (by first | exact .inr hc | exact .inl (of_decide_eq_true hg)))]; simp; done) | (refine G.retFV rfl rfl (congrArg Value.bool ?_); rw [namesM, hall, range_no hlt1 (by rw [item_bad hb1, decide_eq_true hc]; rfl)]; simp; done) | (refine G.retFV rfl rfl (congrArg Value.bool ?_); rw [namesM, hall, range_no hlt1 (by rw [item_bad hb1, dup_at hb1, (List.any_eq_true.2 ⟨q1, List.mem_of_getElem? ((List.getElem?_take_of_lt hltj1).trans hq1), decide_eq_true hc.symm⟩ : (r.items.take k1).any (fun q => decide (q.id = b1.id)) = true), Bool.or_true])]; simp; done) | (refine G.retFV rfl rfl (congrArg Value.bool ?_); rw [namesM, range_no hlt (by rw [dup_at hb]; exact List.any_eq_true.2 ⟨q, List.mem_of_getElem? ((List.getElem?_take_of_lt hltj).trans hq), decide_eq_true hc.symm⟩)]; simp; done)
            · try exact Bool.noConfusion hc
              all_goals
               try replace hc := of_decide_eq_false hc
               try simp only [List.length_map] at hc
               try (exfalso; first | contradiction | omega)
               all_goals
                refine G.skip ?_
                refine G.inN ?_
                refine G.thenN ?_
                refine G.region ?_
                refine G.v (rv_move rfl) rfl ?_
                (first | refine G.v (rv_incr rfl rfl (by omega)) rfl ?_ | refine G.v (rv_addB rfl rfl (by omega) (by omega)) rfl ?_)
                refine G.v (rv_assign rfl) rfl ?_
                refine G.done ?_
                first | refine G.backK (j + 1) 0 rfl (.cons rfl (.cons rfl (.nil))) ?_ ?_ ?_ | refine G.backK (j + 1) 1 rfl (.cons rfl (.cons rfl (.nil))) ?_ ?_ ?_ | refine G.backK (j + 1) 2 rfl (.cons rfl (.cons rfl (.nil))) ?_ ?_ ?_
                · exact ⟨rfl, trivial⟩
                · exact ⟨hltj, any_next htj hq (by simp only [decide_eq_false_iff_not]; exact fun e => hc e.symm)⟩
                · omega
        · try exact Bool.noConfusion hc
          all_goals
           try replace hc := of_decide_eq_false hc
           try simp only [List.length_map] at hc
           try (exfalso; first | contradiction | omega)
           all_goals
            refine G.exit ?_
            refine G.thenX ?_
            refine G.thenX ?_
            refine G.inX ?_
            refine G.inN ?_
            refine G.thenN ?_
            refine G.region ?_
            refine G.v (rv_move rfl) rfl ?_
            (first | refine G.v (rv_incr rfl rfl (by omega)) rfl ?_ | refine G.v (rv_addB rfl rfl (by omega) (by omega)) rfl ?_)
            refine G.v (rv_assign rfl) rfl ?_
            refine G.done ?_
            first | refine G.backK (k + 1) 0 rfl (.cons rfl (.nil)) ?_ ?_ ?_ | refine G.backK (k + 1) 1 rfl (.cons rfl (.nil)) ?_ ?_ ?_ | refine G.backK (k + 1) 2 rfl (.cons rfl (.nil)) ?_ ?_ ?_
            · exact ⟨rfl, trivial⟩
            · exact ⟨hlt, rall_next ht (by rw [dup_at hb, Bool.not_eq_true']; exact (by rwa [show j = k by omega] at htj))⟩
            · omega
   · try exact Bool.noConfusion hc
     all_goals
      try replace hc := of_decide_eq_false hc
      try simp only [List.length_map] at hc
      try (exfalso; first | contradiction | omega)
      all_goals
       refine G.exit ?_
       refine G.thenX ?_
       refine G.thenX ?_
       refine G.inX ?_
       refine G.thenN ?_
       refine G.seq ?_
       refine G.seq ?_
       refine G.region ?_
       refine G.v (rv_assign rfl) rfl ?_
       refine G.done ?_
       refine G.thenN ?_
       refine G.block ?_
       -- loop 2: turned [5], kept [1]
       refine G.loopK (ι := Nat) (ks := [1]) (fun k => [(5, .int .i64 k)]) (fun _ => []) (fun k => k ≤ r.items.length ∧ (List.range k).all (fun i => !itemBad r i) = true) (fun k => r.items.length - k) 0 (.cons rfl (.nil)) rfl ?_ ?_ ?_
       · exact ⟨Nat.zero_le _, rfl⟩
       · exact ⟨rfl, trivial⟩
       rintro k1 ⟨hk1, ht1⟩
       by_cases hlt1 : k1 < r.items.length
       case' pos => (obtain ⟨b1, hb1⟩ := get_of_lt hlt1; have he := get_map hb1 ItemM.cells)
       case' neg => (have hall1 : (List.range r.items.length).all (fun i => !itemBad r i) = true := (by rwa [show k1 = r.items.length by omega] at ht1))
       all_goals
        refine G.seq ?_
        refine G.seq ?_
        refine G.region ?_
        refine G.v (rv_move rfl) rfl ?_
        (first | refine G.v (rv_field rfl) rfl ?_ | refine G.v (rv_fieldE rfl) rfl ?_)
        (first | refine G.v (rv_load1 0 rfl rfl rfl) rfl ?_ | refine G.v (rv_load1 1 rfl rfl rfl) rfl ?_ | refine G.v (rv_load1 2 rfl rfl rfl) rfl ?_)
        refine G.v (rv_len rfl (by first | exact Rd.stays (by assumption) | exact Rd.owned 0 rfl | exact Rd.owned 1 rfl | exact Rd.owned 2 rfl)) rfl ?_
        refine G.v (rv_lss rfl rfl) rfl ?_
        refine G.done ?_
        refine G.thenN ?_
        refine G.cond rfl (fun hc => ?_) (fun hc => ?_)
        · try exact Bool.noConfusion hc
          all_goals
           try replace hc := of_decide_eq_true hc
           try simp only [List.length_map] at hc
           try (exfalso; first | contradiction | omega)
           all_goals
            refine G.skip ?_
            refine G.thenN ?_
            refine G.seq ?_
            refine G.block ?_
            refine G.seq ?_
            refine G.seq ?_
            refine G.drawL [] ?_
            (first | refine GE.q 0 rfl (by as_aux_lemma => kernel_rfl) rfl (qg_runs (rv_field rfl)) rfl ?_ | refine GE.q 0 rfl (by as_aux_lemma => kernel_rfl) rfl (qg_runs (rv_fieldE rfl)) rfl ?_)
            (first | refine GE.q 1 rfl (by as_aux_lemma => kernel_rfl) rfl (qg_runs (rv_load1 0 rfl rfl rfl)) rfl ?_ | refine GE.q 1 rfl (by as_aux_lemma => kernel_rfl) rfl (qg_runs (rv_load1 1 rfl rfl rfl)) rfl ?_ | refine GE.q 1 rfl (by as_aux_lemma => kernel_rfl) rfl (qg_runs (rv_load1 2 rfl rfl rfl)) rfl ?_)
            refine GE.q 2 rfl (by as_aux_lemma => kernel_rfl) rfl (qg_runs (rv_move rfl)) rfl ?_
            (first | refine GE.q 3 rfl (by as_aux_lemma => kernel_rfl) rfl (qg_runs (rv_indexH rfl rfl (by first | exact Rd.stays (by assumption) | exact Rd.owned 0 rfl | exact Rd.owned 1 rfl | exact Rd.owned 2 rfl) rfl (by first | exact he | exact he2))) rfl ?_ | refine GE.q 3 rfl (by as_aux_lemma => kernel_rfl) rfl (qg_runs (rv_index rfl rfl (by first | exact Rd.stays (by assumption) | exact Rd.owned 0 rfl | exact Rd.owned 1 rfl | exact Rd.owned 2 rfl) rfl (by assumption))) rfl ?_)
            (first | refine GE.q 4 rfl (by as_aux_lemma => kernel_rfl) rfl (qg_runs (rv_field rfl)) rfl ?_ | refine GE.q 4 rfl (by as_aux_lemma => kernel_rfl) rfl (qg_runs (rv_fieldE rfl)) rfl ?_)
            refine GE.q 5 rfl (by as_aux_lemma => kernel_rfl) rfl (qg_runs (rv_loadE rfl (by first | exact Rd.stays (by assumption) | exact Rd.owned 0 rfl | exact Rd.owned 1 rfl | exact Rd.owned 2 rfl) (by first | exact he | exact he2) rfl)) rfl ?_
            (first | refine GE.ol 6 (by as_aux_lemma => kernel_rfl) rfl rfl (og_runs (rv_field rfl)) rfl (fun _ _ h => by first | exact h | exact h.drop 1 | exact h.drop 2 | exact h.drop 3 | exact h.drop 4 | exact h.drop 5 | exact h.drop 6 | exact h.drop 7 | exact h.drop 8 | exact h.drop 9 | exact h.drop 10 | exact h.drop 11 | exact h.drop 12 | exact h.drop 13) (fun _ _ => ?_) | refine GE.ol 6 (by as_aux_lemma => kernel_rfl) rfl rfl (og_runs (rv_fieldE rfl)) rfl (fun _ _ h => by first | exact h | exact h.drop 1 | exact h.drop 2 | exact h.drop 3 | exact h.drop 4 | exact h.drop 5 | exact h.drop 6 | exact h.drop 7 | exact h.drop 8 | exact h.drop 9 | exact h.drop 10 | exact h.drop 11 | exact h.drop 12 | exact h.drop 13) (fun _ _ => ?_))
            (first | refine GE.ol 7 (by as_aux_lemma => kernel_rfl) rfl rfl (og_runs (rv_load1 0 rfl rfl rfl)) rfl (fun _ _ h => by first | exact h | exact h.drop 1 | exact h.drop 2 | exact h.drop 3 | exact h.drop 4 | exact h.drop 5 | exact h.drop 6 | exact h.drop 7 | exact h.drop 8 | exact h.drop 9 | exact h.drop 10 | exact h.drop 11 | exact h.drop 12 | exact h.drop 13) (fun _ _ => ?_) | refine GE.ol 7 (by as_aux_lemma => kernel_rfl) rfl rfl (og_runs (rv_load1 1 rfl rfl rfl)) rfl (fun _ _ h => by first | exact h | exact h.drop 1 | exact h.drop 2 | exact h.drop 3 | exact h.drop 4 | exact h.drop 5 | exact h.drop 6 | exact h.drop 7 | exact h.drop 8 | exact h.drop 9 | exact h.drop 10 | exact h.drop 11 | exact h.drop 12 | exact h.drop 13) (fun _ _ => ?_) | refine GE.ol 7 (by as_aux_lemma => kernel_rfl) rfl rfl (og_runs (rv_load1 2 rfl rfl rfl)) rfl (fun _ _ h => by first | exact h | exact h.drop 1 | exact h.drop 2 | exact h.drop 3 | exact h.drop 4 | exact h.drop 5 | exact h.drop 6 | exact h.drop 7 | exact h.drop 8 | exact h.drop 9 | exact h.drop 10 | exact h.drop 11 | exact h.drop 12 | exact h.drop 13) (fun _ _ => ?_))
            refine GE.ol 8 (by as_aux_lemma => kernel_rfl) rfl rfl (og_runs (rv_geq rfl rfl)) rfl (fun _ _ h => by first | exact h | exact h.drop 1 | exact h.drop 2 | exact h.drop 3 | exact h.drop 4 | exact h.drop 5 | exact h.drop 6 | exact h.drop 7 | exact h.drop 8 | exact h.drop 9 | exact h.drop 10 | exact h.drop 11 | exact h.drop 12 | exact h.drop 13) (fun _ _ => ?_)
            refine GE.done (by as_aux_lemma => kernel_rfl) ?_
            refine G.thenN ?_
            refine G.cond rfl (fun hc => ?_) (fun hc => ?_)
            · try exact Bool.noConfusion hc
              all_goals
               try replace hc := of_decide_eq_true hc
               try simp only [List.length_map] at hc
               try (exfalso; first | contradiction | omega)
               all_goals
                refine G.seq ?_
                refine G.region ?_
                refine G.v (rv_assign rfl) rfl ?_
                refine G.done ?_
                refine G.thenN ?_
                refine G.ret ?_
                refine G.thenR ?_
                refine G.inR ?_
                refine G.thenR ?_
                refine G.thenR ?_
                refine G.inR ?_
                refine G.thenR ?_
                first | (refine G.retFV rfl rfl (congrArg Value.bool ?_); rw [namesM, hall, hall1, hall4]; simp; done) | (refine G.retFV rfl rfl (congrArg Value.bool ?_); rw [namesM, all_no hb4 (pairIn_no (by first | exact .inr hc | exact .inl (of_decide_eq_true hg)))]; simp; done) | (refine G.retFV rfl rfl (congrArg Value.bool ?_); rw [namesM, hall, range_no hlt1 (by rw [item_bad hb1, decide_eq_true hc]; rfl)]; simp; done) | (refine G.retFV rfl rfl (congrArg Value.bool ?_); rw [namesM, hall, range_no hlt1 (by rw [item_bad hb1, dup_at hb1, (List.any_eq_true.2 ⟨q1, List.mem_of_getElem? ((List.getElem?_take_of_lt hltj1).trans hq1), decide_eq_true hc.symm⟩ : (r.items.take k1).any (fun q => decide (q.id = b1.id)) = true), Bool.or_true])]; simp; done) | (refine G.retFV rfl rfl (congrArg Value.bool ?_); rw [namesM, range_no hlt (by rw [dup_at hb]; exact List.any_eq_true.2 ⟨q, List.mem_of_getElem? ((List.getElem?_take_of_lt hltj).trans hq), decide_eq_true hc.symm⟩)]; simp; done)
            · try exact Bool.noConfusion hc
              all_goals
               try replace hc := of_decide_eq_false hc
               try simp only [List.length_map] at hc
               try (exfalso; first | contradiction | omega)
               all_goals
                have hcls := hc
                all_goals
                 refine G.skip ?_
                 refine G.thenN ?_
                 refine G.seq ?_
                 refine G.region ?_
                 refine G.v (rv_assign rfl) rfl ?_
                 refine G.done ?_
                 refine G.thenN ?_
                 refine G.block ?_
                 -- loop 3: turned [6], kept [1, 5]
                 refine G.loopK (ι := Nat) (ks := [1, 5]) (fun k => [(6, .int .i64 k)]) (fun _ => []) (fun j => j ≤ k1 ∧ (r.items.take j).any (fun q => decide (q.id = b1.id)) = false) (fun j => k1 - j) 0 (.cons rfl (.cons rfl (.nil))) rfl ?_ ?_ ?_
                 · exact ⟨Nat.zero_le _, rfl⟩
                 · exact ⟨rfl, trivial⟩
                 rintro j1 ⟨hj1, htj1⟩
                 by_cases hltj1 : j1 < k1
                 case' pos => (obtain ⟨q1, hq1⟩ := get_of_lt (l := r.items) (k := j1) (by omega); have he2 := get_map hq1 ItemM.cells)
                 all_goals
                  refine G.seq ?_
                  refine G.seq ?_
                  refine G.region ?_
                  refine G.v (rv_move rfl) rfl ?_
                  refine G.v (rv_move rfl) rfl ?_
                  refine G.v (rv_lss rfl rfl) rfl ?_
                  refine G.done ?_
                  refine G.thenN ?_
                  refine G.cond rfl (fun hc => ?_) (fun hc => ?_)
                  · try exact Bool.noConfusion hc
                    all_goals
                     try replace hc := of_decide_eq_true hc
                     try simp only [List.length_map] at hc
                     try (exfalso; first | contradiction | omega)
                     all_goals
                      refine G.skip ?_
                      refine G.thenN ?_
                      refine G.seq ?_
                      refine G.block ?_
                      refine G.seq ?_
                      refine G.drawL [] ?_
                      (first | refine GE.q 0 rfl (by as_aux_lemma => kernel_rfl) rfl (qg_runs (rv_field rfl)) rfl ?_ | refine GE.q 0 rfl (by as_aux_lemma => kernel_rfl) rfl (qg_runs (rv_fieldE rfl)) rfl ?_)
                      (first | refine GE.q 1 rfl (by as_aux_lemma => kernel_rfl) rfl (qg_runs (rv_load1 0 rfl rfl rfl)) rfl ?_ | refine GE.q 1 rfl (by as_aux_lemma => kernel_rfl) rfl (qg_runs (rv_load1 1 rfl rfl rfl)) rfl ?_ | refine GE.q 1 rfl (by as_aux_lemma => kernel_rfl) rfl (qg_runs (rv_load1 2 rfl rfl rfl)) rfl ?_)
                      refine GE.q 2 rfl (by as_aux_lemma => kernel_rfl) rfl (qg_runs (rv_move rfl)) rfl ?_
                      (first | refine GE.q 3 rfl (by as_aux_lemma => kernel_rfl) rfl (qg_runs (rv_indexH rfl rfl (by first | exact Rd.stays (by assumption) | exact Rd.owned 0 rfl | exact Rd.owned 1 rfl | exact Rd.owned 2 rfl) rfl (by first | exact he | exact he2))) rfl ?_ | refine GE.q 3 rfl (by as_aux_lemma => kernel_rfl) rfl (qg_runs (rv_index rfl rfl (by first | exact Rd.stays (by assumption) | exact Rd.owned 0 rfl | exact Rd.owned 1 rfl | exact Rd.owned 2 rfl) rfl (by assumption))) rfl ?_)
                      (first | refine GE.q 4 rfl (by as_aux_lemma => kernel_rfl) rfl (qg_runs (rv_field rfl)) rfl ?_ | refine GE.q 4 rfl (by as_aux_lemma => kernel_rfl) rfl (qg_runs (rv_fieldE rfl)) rfl ?_)
                      refine GE.q 5 rfl (by as_aux_lemma => kernel_rfl) rfl (qg_runs (rv_loadE rfl (by first | exact Rd.stays (by assumption) | exact Rd.owned 0 rfl | exact Rd.owned 1 rfl | exact Rd.owned 2 rfl) (by first | exact he | exact he2) rfl)) rfl ?_
                      (first | refine GE.q 6 rfl (by as_aux_lemma => kernel_rfl) rfl (qg_runs (rv_field rfl)) rfl ?_ | refine GE.q 6 rfl (by as_aux_lemma => kernel_rfl) rfl (qg_runs (rv_fieldE rfl)) rfl ?_)
                      (first | refine GE.q 7 rfl (by as_aux_lemma => kernel_rfl) rfl (qg_runs (rv_load1 0 rfl rfl rfl)) rfl ?_ | refine GE.q 7 rfl (by as_aux_lemma => kernel_rfl) rfl (qg_runs (rv_load1 1 rfl rfl rfl)) rfl ?_ | refine GE.q 7 rfl (by as_aux_lemma => kernel_rfl) rfl (qg_runs (rv_load1 2 rfl rfl rfl)) rfl ?_)
                      refine GE.ol 8 (by as_aux_lemma => kernel_rfl) rfl rfl (og_runs (rv_move rfl)) rfl (fun _ _ h => by first | exact h | exact h.drop 1 | exact h.drop 2 | exact h.drop 3 | exact h.drop 4 | exact h.drop 5 | exact h.drop 6 | exact h.drop 7 | exact h.drop 8 | exact h.drop 9 | exact h.drop 10 | exact h.drop 11 | exact h.drop 12 | exact h.drop 13) (fun _ _ => ?_)
                      (first | refine GE.ol 9 (by as_aux_lemma => kernel_rfl) rfl rfl (og_runs (rv_indexH rfl rfl (by first | exact Rd.stays (by assumption) | exact Rd.owned 0 rfl | exact Rd.owned 1 rfl | exact Rd.owned 2 rfl) rfl (by first | exact he | exact he2))) rfl (fun _ _ h => by first | exact h | exact h.drop 1 | exact h.drop 2 | exact h.drop 3 | exact h.drop 4 | exact h.drop 5 | exact h.drop 6 | exact h.drop 7 | exact h.drop 8 | exact h.drop 9 | exact h.drop 10 | exact h.drop 11 | exact h.drop 12 | exact h.drop 13) (fun _ _ => ?_) | refine GE.ol 9 (by as_aux_lemma => kernel_rfl) rfl rfl (og_runs (rv_index rfl rfl (by first | exact Rd.stays (by assumption) | exact Rd.owned 0 rfl | exact Rd.owned 1 rfl | exact Rd.owned 2 rfl) rfl (by assumption))) rfl (fun _ _ h => by first | exact h | exact h.drop 1 | exact h.drop 2 | exact h.drop 3 | exact h.drop 4 | exact h.drop 5 | exact h.drop 6 | exact h.drop 7 | exact h.drop 8 | exact h.drop 9 | exact h.drop 10 | exact h.drop 11 | exact h.drop 12 | exact h.drop 13) (fun _ _ => ?_))
                      (first | refine GE.ol 10 (by as_aux_lemma => kernel_rfl) rfl rfl (og_runs (rv_field rfl)) rfl (fun _ _ h => by first | exact h | exact h.drop 1 | exact h.drop 2 | exact h.drop 3 | exact h.drop 4 | exact h.drop 5 | exact h.drop 6 | exact h.drop 7 | exact h.drop 8 | exact h.drop 9 | exact h.drop 10 | exact h.drop 11 | exact h.drop 12 | exact h.drop 13) (fun _ _ => ?_) | refine GE.ol 10 (by as_aux_lemma => kernel_rfl) rfl rfl (og_runs (rv_fieldE rfl)) rfl (fun _ _ h => by first | exact h | exact h.drop 1 | exact h.drop 2 | exact h.drop 3 | exact h.drop 4 | exact h.drop 5 | exact h.drop 6 | exact h.drop 7 | exact h.drop 8 | exact h.drop 9 | exact h.drop 10 | exact h.drop 11 | exact h.drop 12 | exact h.drop 13) (fun _ _ => ?_))
                      refine GE.ol 11 (by as_aux_lemma => kernel_rfl) rfl rfl (og_runs (rv_loadE rfl (by first | exact Rd.stays (by assumption) | exact Rd.owned 0 rfl | exact Rd.owned 1 rfl | exact Rd.owned 2 rfl) (by first | exact he | exact he2) rfl)) rfl (fun _ _ h => by first | exact h | exact h.drop 1 | exact h.drop 2 | exact h.drop 3 | exact h.drop 4 | exact h.drop 5 | exact h.drop 6 | exact h.drop 7 | exact h.drop 8 | exact h.drop 9 | exact h.drop 10 | exact h.drop 11 | exact h.drop 12 | exact h.drop 13) (fun _ _ => ?_)
                      refine GE.ol 12 (by as_aux_lemma => kernel_rfl) rfl rfl (og_runs (rv_eql rfl rfl)) rfl (fun _ _ h => by first | exact h | exact h.drop 1 | exact h.drop 2 | exact h.drop 3 | exact h.drop 4 | exact h.drop 5 | exact h.drop 6 | exact h.drop 7 | exact h.drop 8 | exact h.drop 9 | exact h.drop 10 | exact h.drop 11 | exact h.drop 12 | exact h.drop 13) (fun _ _ => ?_)
                      refine GE.done (by as_aux_lemma => kernel_rfl) ?_
                      refine G.thenN ?_
                      refine G.cond rfl (fun hc => ?_) (fun hc => ?_)
                      · try exact Bool.noConfusion hc
                        all_goals
                         try replace hc := of_decide_eq_true hc
                         try simp only [List.length_map] at hc
                         try (exfalso; first | contradiction | omega)
                         all_goals
                          refine G.seq ?_
                          refine G.region ?_
                          refine G.v (rv_assign rfl) rfl ?_
                          refine G.done ?_
                          refine G.thenN ?_
                          refine G.ret ?_
                          refine G.inR ?_
                          refine G.thenR ?_
                          refine G.thenR ?_
                          refine G.inR ?_
                          refine G.inR ?_
                          refine G.thenR ?_
                          refine G.thenR ?_
                          refine G.inR ?_
                          refine G.thenR ?_
                          first | (refine G.retFV rfl rfl (congrArg Value.bool ?_); rw [namesM, hall, hall1, hall4]; simp; done) | (refine G.retFV rfl rfl (congrArg Value.bool ?_); rw [namesM, all_no hb4 (pairIn_no (by first | exact .inr hc | exact .inl (of_decide_eq_true hg)))]; simp; done) | (refine G.retFV rfl rfl (congrArg Value.bool ?_); rw [namesM, hall, range_no hlt1 (by rw [item_bad hb1, decide_eq_true hc]; rfl)]; simp; done) | (refine G.retFV rfl rfl (congrArg Value.bool ?_); rw [namesM, hall, range_no hlt1 (by rw [item_bad hb1, dup_at hb1, (List.any_eq_true.2 ⟨q1, List.mem_of_getElem? ((List.getElem?_take_of_lt hltj1).trans hq1), decide_eq_true hc.symm⟩ : (r.items.take k1).any (fun q => decide (q.id = b1.id)) = true), Bool.or_true])]; simp; done) | (refine G.retFV rfl rfl (congrArg Value.bool ?_); rw [namesM, range_no hlt (by rw [dup_at hb]; exact List.any_eq_true.2 ⟨q, List.mem_of_getElem? ((List.getElem?_take_of_lt hltj).trans hq), decide_eq_true hc.symm⟩)]; simp; done)
                      · try exact Bool.noConfusion hc
                        all_goals
                         try replace hc := of_decide_eq_false hc
                         try simp only [List.length_map] at hc
                         try (exfalso; first | contradiction | omega)
                         all_goals
                          refine G.skip ?_
                          refine G.inN ?_
                          refine G.thenN ?_
                          refine G.region ?_
                          refine G.v (rv_move rfl) rfl ?_
                          (first | refine G.v (rv_incr rfl rfl (by omega)) rfl ?_ | refine G.v (rv_addB rfl rfl (by omega) (by omega)) rfl ?_)
                          refine G.v (rv_assign rfl) rfl ?_
                          refine G.done ?_
                          first | refine G.backK (j1 + 1) 0 rfl (.cons rfl (.cons rfl (.nil))) ?_ ?_ ?_ | refine G.backK (j1 + 1) 1 rfl (.cons rfl (.cons rfl (.nil))) ?_ ?_ ?_ | refine G.backK (j1 + 1) 2 rfl (.cons rfl (.cons rfl (.nil))) ?_ ?_ ?_
                          · exact ⟨rfl, trivial⟩
                          · exact ⟨hltj1, any_next htj1 hq1 (by simp only [decide_eq_false_iff_not]; exact fun e => hc e.symm)⟩
                          · omega
                  · try exact Bool.noConfusion hc
                    all_goals
                     try replace hc := of_decide_eq_false hc
                     try simp only [List.length_map] at hc
                     try (exfalso; first | contradiction | omega)
                     all_goals
                      refine G.exit ?_
                      refine G.thenX ?_
                      refine G.thenX ?_
                      refine G.inX ?_
                      refine G.inN ?_
                      refine G.thenN ?_
                      refine G.region ?_
                      refine G.v (rv_move rfl) rfl ?_
                      (first | refine G.v (rv_incr rfl rfl (by omega)) rfl ?_ | refine G.v (rv_addB rfl rfl (by omega) (by omega)) rfl ?_)
                      refine G.v (rv_assign rfl) rfl ?_
                      refine G.done ?_
                      first | refine G.backK (k1 + 1) 0 rfl (.cons rfl (.nil)) ?_ ?_ ?_ | refine G.backK (k1 + 1) 1 rfl (.cons rfl (.nil)) ?_ ?_ ?_ | refine G.backK (k1 + 1) 2 rfl (.cons rfl (.nil)) ?_ ?_ ?_
                      · exact ⟨rfl, trivial⟩
                      · exact ⟨hlt1, rall_next ht1 (by rw [item_bad hb1, dup_at hb1, Bool.not_eq_true', Bool.or_eq_false_iff]; exact ⟨decide_eq_false hcls, (by rwa [show j1 = k1 by omega] at htj1)⟩)⟩
                      · omega
        · try exact Bool.noConfusion hc
          all_goals
           try replace hc := of_decide_eq_false hc
           try simp only [List.length_map] at hc
           try (exfalso; first | contradiction | omega)
           all_goals
            refine G.exit ?_
            refine G.thenX ?_
            refine G.thenX ?_
            refine G.inX ?_
            refine G.thenN ?_
            refine G.seq ?_
            refine G.seq ?_
            refine G.region ?_
            refine G.v (rv_assign rfl) rfl ?_
            refine G.done ?_
            refine G.thenN ?_
            refine G.block ?_
            -- loop 4: turned [7], kept [1]
            refine G.loopK (ι := Nat) (ks := [1]) (fun k => [(7, .int .i64 k)]) (fun _ => []) (fun k => k ≤ r.pairs.length ∧ (r.pairs.take k).all (pairIn r) = true) (fun k => r.pairs.length - k) 0 (.cons rfl (.nil)) rfl ?_ ?_ ?_
            · exact ⟨Nat.zero_le _, rfl⟩
            · exact ⟨rfl, trivial⟩
            rintro k4 ⟨hk4, ht4⟩
            by_cases hlt4 : k4 < r.pairs.length
            case' pos => (obtain ⟨b4, hb4⟩ := get_of_lt hlt4; have he := get_map hb4 PairM.cells)
            case' neg => (have hall4 := all_end ht4 hlt4)
            all_goals
             refine G.seq ?_
             refine G.seq ?_
             refine G.region ?_
             refine G.v (rv_move rfl) rfl ?_
             (first | refine G.v (rv_field rfl) rfl ?_ | refine G.v (rv_fieldE rfl) rfl ?_)
             (first | refine G.v (rv_load1 0 rfl rfl rfl) rfl ?_ | refine G.v (rv_load1 1 rfl rfl rfl) rfl ?_ | refine G.v (rv_load1 2 rfl rfl rfl) rfl ?_)
             refine G.v (rv_len rfl (by first | exact Rd.stays (by assumption) | exact Rd.owned 0 rfl | exact Rd.owned 1 rfl | exact Rd.owned 2 rfl)) rfl ?_
             refine G.v (rv_lss rfl rfl) rfl ?_
             refine G.done ?_
             refine G.thenN ?_
             refine G.cond rfl (fun hc => ?_) (fun hc => ?_)
             · try exact Bool.noConfusion hc
               all_goals
                try replace hc := of_decide_eq_true hc
                try simp only [List.length_map] at hc
                try (exfalso; first | contradiction | omega)
                all_goals
                 refine G.skip ?_
                 refine G.thenN ?_
                 refine G.seq ?_
                 refine G.block ?_
                 refine G.seq ?_
                 refine G.drawL [] ?_
                 (first | refine GE.q 0 rfl (by as_aux_lemma => kernel_rfl) rfl (qg_runs (rv_field rfl)) rfl ?_ | refine GE.q 0 rfl (by as_aux_lemma => kernel_rfl) rfl (qg_runs (rv_fieldE rfl)) rfl ?_)
                 (first | refine GE.q 1 rfl (by as_aux_lemma => kernel_rfl) rfl (qg_runs (rv_load1 0 rfl rfl rfl)) rfl ?_ | refine GE.q 1 rfl (by as_aux_lemma => kernel_rfl) rfl (qg_runs (rv_load1 1 rfl rfl rfl)) rfl ?_ | refine GE.q 1 rfl (by as_aux_lemma => kernel_rfl) rfl (qg_runs (rv_load1 2 rfl rfl rfl)) rfl ?_)
                 refine GE.q 2 rfl (by as_aux_lemma => kernel_rfl) rfl (qg_runs (rv_move rfl)) rfl ?_
                 (first | refine GE.q 3 rfl (by as_aux_lemma => kernel_rfl) rfl (qg_runs (rv_indexH rfl rfl (by first | exact Rd.stays (by assumption) | exact Rd.owned 0 rfl | exact Rd.owned 1 rfl | exact Rd.owned 2 rfl) rfl (by first | exact he | exact he2))) rfl ?_ | refine GE.q 3 rfl (by as_aux_lemma => kernel_rfl) rfl (qg_runs (rv_index rfl rfl (by first | exact Rd.stays (by assumption) | exact Rd.owned 0 rfl | exact Rd.owned 1 rfl | exact Rd.owned 2 rfl) rfl (by assumption))) rfl ?_)
                 (first | refine GE.q 4 rfl (by as_aux_lemma => kernel_rfl) rfl (qg_runs (rv_field rfl)) rfl ?_ | refine GE.q 4 rfl (by as_aux_lemma => kernel_rfl) rfl (qg_runs (rv_fieldE rfl)) rfl ?_)
                 refine GE.q 5 rfl (by as_aux_lemma => kernel_rfl) rfl (qg_runs (rv_loadE rfl (by first | exact Rd.stays (by assumption) | exact Rd.owned 0 rfl | exact Rd.owned 1 rfl | exact Rd.owned 2 rfl) (by first | exact he | exact he2) rfl)) rfl ?_
                 (first | refine GE.ol 6 (by as_aux_lemma => kernel_rfl) rfl rfl (og_runs (rv_field rfl)) rfl (fun _ _ h => by first | exact h | exact h.drop 1 | exact h.drop 2 | exact h.drop 3 | exact h.drop 4 | exact h.drop 5 | exact h.drop 6 | exact h.drop 7 | exact h.drop 8 | exact h.drop 9 | exact h.drop 10 | exact h.drop 11 | exact h.drop 12 | exact h.drop 13) (fun _ _ => ?_) | refine GE.ol 6 (by as_aux_lemma => kernel_rfl) rfl rfl (og_runs (rv_fieldE rfl)) rfl (fun _ _ h => by first | exact h | exact h.drop 1 | exact h.drop 2 | exact h.drop 3 | exact h.drop 4 | exact h.drop 5 | exact h.drop 6 | exact h.drop 7 | exact h.drop 8 | exact h.drop 9 | exact h.drop 10 | exact h.drop 11 | exact h.drop 12 | exact h.drop 13) (fun _ _ => ?_))
                 (first | refine GE.ol 7 (by as_aux_lemma => kernel_rfl) rfl rfl (og_runs (rv_load1 0 rfl rfl rfl)) rfl (fun _ _ h => by first | exact h | exact h.drop 1 | exact h.drop 2 | exact h.drop 3 | exact h.drop 4 | exact h.drop 5 | exact h.drop 6 | exact h.drop 7 | exact h.drop 8 | exact h.drop 9 | exact h.drop 10 | exact h.drop 11 | exact h.drop 12 | exact h.drop 13) (fun _ _ => ?_) | refine GE.ol 7 (by as_aux_lemma => kernel_rfl) rfl rfl (og_runs (rv_load1 1 rfl rfl rfl)) rfl (fun _ _ h => by first | exact h | exact h.drop 1 | exact h.drop 2 | exact h.drop 3 | exact h.drop 4 | exact h.drop 5 | exact h.drop 6 | exact h.drop 7 | exact h.drop 8 | exact h.drop 9 | exact h.drop 10 | exact h.drop 11 | exact h.drop 12 | exact h.drop 13) (fun _ _ => ?_) | refine GE.ol 7 (by as_aux_lemma => kernel_rfl) rfl rfl (og_runs (rv_load1 2 rfl rfl rfl)) rfl (fun _ _ h => by first | exact h | exact h.drop 1 | exact h.drop 2 | exact h.drop 3 | exact h.drop 4 | exact h.drop 5 | exact h.drop 6 | exact h.drop 7 | exact h.drop 8 | exact h.drop 9 | exact h.drop 10 | exact h.drop 11 | exact h.drop 12 | exact h.drop 13) (fun _ _ => ?_))
                 refine GE.ol 8 (by as_aux_lemma => kernel_rfl) rfl rfl (og_runs (rv_geq rfl rfl)) rfl (fun _ _ h => by first | exact h | exact h.drop 1 | exact h.drop 2 | exact h.drop 3 | exact h.drop 4 | exact h.drop 5 | exact h.drop 6 | exact h.drop 7 | exact h.drop 8 | exact h.drop 9 | exact h.drop 10 | exact h.drop 11 | exact h.drop 12 | exact h.drop 13) (fun _ _ => ?_)
                 refine GE.ol 9 (by as_aux_lemma => kernel_rfl) rfl rfl (og_runs (rv_move rfl)) rfl (fun _ _ h => by first | exact h | exact h.drop 1 | exact h.drop 2 | exact h.drop 3 | exact h.drop 4 | exact h.drop 5 | exact h.drop 6 | exact h.drop 7 | exact h.drop 8 | exact h.drop 9 | exact h.drop 10 | exact h.drop 11 | exact h.drop 12 | exact h.drop 13) (fun _ _ => ?_)
                 all_goals (((with_reducible refine GE.part (t := 85) rfl (fun hg => ?_) (fun hg => ?_)) <;> (try exact Bool.noConfusion hg) <;> (first | (first | refine GE.q 10 rfl (by as_aux_lemma => kernel_rfl) rfl (qg_runs (rv_field rfl)) rfl ?_ | refine GE.q 10 rfl (by as_aux_lemma => kernel_rfl) rfl (qg_runs (rv_fieldE rfl)) rfl ?_) | refine GE.qn 10 rfl (by as_aux_lemma => kernel_rfl) rfl rfl ?_)))
                 all_goals ((first | (first | refine GE.q 11 rfl (by as_aux_lemma => kernel_rfl) rfl (qg_runs (rv_load1 0 rfl rfl rfl)) rfl ?_ | refine GE.q 11 rfl (by as_aux_lemma => kernel_rfl) rfl (qg_runs (rv_load1 1 rfl rfl rfl)) rfl ?_ | refine GE.q 11 rfl (by as_aux_lemma => kernel_rfl) rfl (qg_runs (rv_load1 2 rfl rfl rfl)) rfl ?_) | refine GE.qn 11 rfl (by as_aux_lemma => kernel_rfl) rfl rfl ?_))
                 all_goals ((first | refine GE.q 12 rfl (by as_aux_lemma => kernel_rfl) rfl (qg_runs (rv_move rfl)) rfl ?_ | refine GE.qn 12 rfl (by as_aux_lemma => kernel_rfl) rfl rfl ?_))
                 all_goals ((first | (first | refine GE.q 13 rfl (by as_aux_lemma => kernel_rfl) rfl (qg_runs (rv_indexH rfl rfl (by first | exact Rd.stays (by assumption) | exact Rd.owned 0 rfl | exact Rd.owned 1 rfl | exact Rd.owned 2 rfl) rfl (by first | exact he | exact he2))) rfl ?_ | refine GE.q 13 rfl (by as_aux_lemma => kernel_rfl) rfl (qg_runs (rv_index rfl rfl (by first | exact Rd.stays (by assumption) | exact Rd.owned 0 rfl | exact Rd.owned 1 rfl | exact Rd.owned 2 rfl) rfl (by assumption))) rfl ?_) | refine GE.qn 13 rfl (by as_aux_lemma => kernel_rfl) rfl rfl ?_))
                 all_goals ((first | (first | refine GE.q 14 rfl (by as_aux_lemma => kernel_rfl) rfl (qg_runs (rv_field rfl)) rfl ?_ | refine GE.q 14 rfl (by as_aux_lemma => kernel_rfl) rfl (qg_runs (rv_fieldE rfl)) rfl ?_) | refine GE.qn 14 rfl (by as_aux_lemma => kernel_rfl) rfl rfl ?_))
                 all_goals ((first | refine GE.q 15 rfl (by as_aux_lemma => kernel_rfl) rfl (qg_runs (rv_loadE rfl (by first | exact Rd.stays (by assumption) | exact Rd.owned 0 rfl | exact Rd.owned 1 rfl | exact Rd.owned 2 rfl) (by first | exact he | exact he2) rfl)) rfl ?_ | refine GE.qn 15 rfl (by as_aux_lemma => kernel_rfl) rfl rfl ?_))
                 all_goals ((first | (first | refine GE.q 16 rfl (by as_aux_lemma => kernel_rfl) rfl (qg_runs (rv_field rfl)) rfl ?_ | refine GE.q 16 rfl (by as_aux_lemma => kernel_rfl) rfl (qg_runs (rv_fieldE rfl)) rfl ?_) | refine GE.qn 16 rfl (by as_aux_lemma => kernel_rfl) rfl rfl ?_))
                 all_goals ((first | (first | refine GE.q 17 rfl (by as_aux_lemma => kernel_rfl) rfl (qg_runs (rv_load1 0 rfl rfl rfl)) rfl ?_ | refine GE.q 17 rfl (by as_aux_lemma => kernel_rfl) rfl (qg_runs (rv_load1 1 rfl rfl rfl)) rfl ?_ | refine GE.q 17 rfl (by as_aux_lemma => kernel_rfl) rfl (qg_runs (rv_load1 2 rfl rfl rfl)) rfl ?_) | refine GE.qn 17 rfl (by as_aux_lemma => kernel_rfl) rfl rfl ?_))
                 all_goals ((first | refine GE.q 18 rfl (by as_aux_lemma => kernel_rfl) rfl (qg_runs (rv_geq rfl rfl)) rfl ?_ | refine GE.qn 18 rfl (by as_aux_lemma => kernel_rfl) rfl rfl ?_))
                 all_goals ((first | refine GE.ol 19 (by as_aux_lemma => kernel_rfl) rfl rfl (og_runs (rv_pickT rfl rfl)) rfl (fun _ _ h => by first | exact h | exact h.drop 1 | exact h.drop 2 | exact h.drop 3 | exact h.drop 4 | exact h.drop 5 | exact h.drop 6 | exact h.drop 7 | exact h.drop 8 | exact h.drop 9 | exact h.drop 10 | exact h.drop 11 | exact h.drop 12 | exact h.drop 13) (fun _ _ => ?_) | refine GE.ol 19 (by as_aux_lemma => kernel_rfl) rfl rfl (og_runs (rv_pickF rfl rfl)) rfl (fun _ _ h => by first | exact h | exact h.drop 1 | exact h.drop 2 | exact h.drop 3 | exact h.drop 4 | exact h.drop 5 | exact h.drop 6 | exact h.drop 7 | exact h.drop 8 | exact h.drop 9 | exact h.drop 10 | exact h.drop 11 | exact h.drop 12 | exact h.drop 13) (fun _ _ => ?_)))
                 all_goals
                  refine GE.done (by as_aux_lemma => kernel_rfl) ?_
                  refine G.thenN ?_
                  refine G.cond rfl (fun hc => ?_) (fun hc => ?_)
                  · try exact Bool.noConfusion hc
                    all_goals
                     try replace hc := of_decide_eq_true hc
                     try simp only [List.length_map] at hc
                     try (exfalso; first | contradiction | omega)
                     all_goals
                      refine G.seq ?_
                      refine G.region ?_
                      refine G.v (rv_assign rfl) rfl ?_
                      refine G.done ?_
                      refine G.thenN ?_
                      refine G.ret ?_
                      refine G.inR ?_
                      refine G.thenR ?_
                      refine G.thenR ?_
                      refine G.inR ?_
                      refine G.thenR ?_
                      first | (refine G.retFV rfl rfl (congrArg Value.bool ?_); rw [namesM, hall, hall1, hall4]; simp; done) | (refine G.retFV rfl rfl (congrArg Value.bool ?_); rw [namesM, all_no hb4 (pairIn_no (by first | exact .inr hc | exact .inl (of_decide_eq_true hg)))]; simp; done) | (refine G.retFV rfl rfl (congrArg Value.bool ?_); rw [namesM, hall, range_no hlt1 (by rw [item_bad hb1, decide_eq_true hc]; rfl)]; simp; done) | (refine G.retFV rfl rfl (congrArg Value.bool ?_); rw [namesM, hall, range_no hlt1 (by rw [item_bad hb1, dup_at hb1, (List.any_eq_true.2 ⟨q1, List.mem_of_getElem? ((List.getElem?_take_of_lt hltj1).trans hq1), decide_eq_true hc.symm⟩ : (r.items.take k1).any (fun q => decide (q.id = b1.id)) = true), Bool.or_true])]; simp; done) | (refine G.retFV rfl rfl (congrArg Value.bool ?_); rw [namesM, range_no hlt (by rw [dup_at hb]; exact List.any_eq_true.2 ⟨q, List.mem_of_getElem? ((List.getElem?_take_of_lt hltj).trans hq), decide_eq_true hc.symm⟩)]; simp; done)
                  · try exact Bool.noConfusion hc
                    all_goals
                     try replace hc := of_decide_eq_false hc
                     try simp only [List.length_map] at hc
                     try (exfalso; first | contradiction | omega)
                     all_goals
                      refine G.skip ?_
                      refine G.inN ?_
                      refine G.thenN ?_
                      refine G.region ?_
                      refine G.v (rv_move rfl) rfl ?_
                      (first | refine G.v (rv_incr rfl rfl (by omega)) rfl ?_ | refine G.v (rv_addB rfl rfl (by omega) (by omega)) rfl ?_)
                      refine G.v (rv_assign rfl) rfl ?_
                      refine G.done ?_
                      first | refine G.backK (k4 + 1) 0 rfl (.cons rfl (.nil)) ?_ ?_ ?_ | refine G.backK (k4 + 1) 1 rfl (.cons rfl (.nil)) ?_ ?_ ?_ | refine G.backK (k4 + 1) 2 rfl (.cons rfl (.nil)) ?_ ?_ ?_
                      · exact ⟨rfl, trivial⟩
                      · exact ⟨hlt4, all_next ht4 hb4 (pairIn_yes (by simp_all; try omega) (by simp_all; try omega))⟩
                      · omega
             · try exact Bool.noConfusion hc
               all_goals
                try replace hc := of_decide_eq_false hc
                try simp only [List.length_map] at hc
                try (exfalso; first | contradiction | omega)
                all_goals
                 refine G.exit ?_
                 refine G.thenX ?_
                 refine G.thenX ?_
                 refine G.inX ?_
                 refine G.thenN ?_
                 refine G.seq ?_
                 refine G.region ?_
                 (first | refine G.v (rv_loadW 0 rfl rfl rfl) rfl ?_ | refine G.v (rv_loadW 1 rfl rfl rfl) rfl ?_ | refine G.v (rv_loadW 2 rfl rfl rfl) rfl ?_ | refine G.v (rv_loadP 0 rfl rfl (.one (.one (.one (.one (.one (.one (.one (.one (.one (.one .nil))))))))))) rfl ?_ | refine G.v (rv_loadP 1 rfl rfl (.one (.one (.one (.one (.one (.one (.one (.one (.one (.one .nil))))))))))) rfl ?_ | refine G.v (rv_loadP 2 rfl rfl (.one (.one (.one (.one (.one (.one (.one (.one (.one (.one .nil))))))))))) rfl ?_)
                 refine G.op (og_callV rfl rfl (fun w hh => smasterOf_any w (by first | exact Rd.stays (by assumption) _ hh | exact Rd.owned 0 rfl _ hh | exact Rd.owned 1 rfl _ hh | exact Rd.owned 2 rfl _ hh | exact Rd.owned 3 rfl _ hh | exact Rd.owned 4 rfl _ hh | exact Rd.owned 5 rfl _ hh | exact Rd.owned 6 rfl _ hh | exact Rd.owned 7 rfl _ hh | exact Rd.owned 8 rfl _ hh | exact Rd.owned 9 rfl _ hh | exact Rd.owned 10 rfl _ hh | exact Rd.owned 11 rfl _ hh | exact Rd.owned 12 rfl _ hh | exact Rd.owned 13 rfl _ hh | exact Rd.owned 14 rfl _ hh | exact Rd.owned 15 rfl _ hh))) rfl (fun _ _ => ?_)
                 refine G.v (rv_move rfl) rfl ?_
                 refine G.v (rv_extract rfl rfl) rfl ?_
                 refine G.v (rv_extract rfl rfl) rfl ?_
                 refine G.op (og_alloc) rfl (fun bk8 _ => ?_)
                 (first | refine G.op0 (og_st0 rfl rfl rfl rfl rfl rfl (.zero (.cons (.cons (.cons (.cons (.cons (.cons (.cons .nil))))))))) (fun _ _ => ?_) | refine G.op0 (og_st1 rfl rfl rfl rfl rfl rfl (.zero (.cons (.cons (.cons (.cons (.cons (.cons (.cons .nil))))))))) (fun _ _ => ?_) | refine G.op0 (og_st2 rfl rfl rfl rfl rfl rfl (.zero (.cons (.cons (.cons (.cons (.cons (.cons (.cons .nil))))))))) (fun _ _ => ?_))
                 refine G.v (rv_assign rfl) rfl ?_
                 refine G.done ?_
                 refine G.thenN ?_
                 refine G.seq ?_
                 refine G.region ?_
                 refine G.v (rv_move rfl) rfl ?_
                 refine G.v (rv_assign rfl) rfl ?_
                 refine G.done ?_
                 refine G.thenN ?_
                 refine G.ret ?_
                 first | (refine G.retFV rfl rfl (congrArg Value.bool ?_); rw [namesM, hall, hall1, hall4]; simp; done) | (refine G.retFV rfl rfl (congrArg Value.bool ?_); rw [namesM, all_no hb4 (pairIn_no (by first | exact .inr hc | exact .inl (of_decide_eq_true hg)))]; simp; done) | (refine G.retFV rfl rfl (congrArg Value.bool ?_); rw [namesM, hall, range_no hlt1 (by rw [item_bad hb1, decide_eq_true hc]; rfl)]; simp; done) | (refine G.retFV rfl rfl (congrArg Value.bool ?_); rw [namesM, hall, range_no hlt1 (by rw [item_bad hb1, dup_at hb1, (List.any_eq_true.2 ⟨q1, List.mem_of_getElem? ((List.getElem?_take_of_lt hltj1).trans hq1), decide_eq_true hc.symm⟩ : (r.items.take k1).any (fun q => decide (q.id = b1.id)) = true), Bool.or_true])]; simp; done) | (refine G.retFV rfl rfl (congrArg Value.bool ?_); rw [namesM, range_no hlt (by rw [dup_at hb]; exact List.any_eq_true.2 ⟨q, List.mem_of_getElem? ((List.getElem?_take_of_lt hltj).trans hq), decide_eq_true hc.symm⟩)]; simp; done)
end Go.Proofs.YtpmphkcibiimcaaGreat
