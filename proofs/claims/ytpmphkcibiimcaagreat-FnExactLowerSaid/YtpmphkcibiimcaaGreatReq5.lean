/-
  The bounds of an order, the reference's way; kinds that may lie beside one another.
-/
import Derived.Test.YtpmphkcibiimcaaGreatReq4
namespace Go.Proofs.YtpmphkcibiimcaaGreat
open Go.RowKit
attribute [local irreducible] Go.wpList Go.Code.wp Go.Exit.then Go.Exit.inBlock Go.bodyPost Go.Calls pE pB G RunsV FnV Fn FnM
set_option maxRecDepth 100000
set_option maxHeartbeats 1000000
theorem sboundsOk_any {r : ReqM} {pv tv iv : Value} (w : World) (h : Rd w pv 2 (r.pairs.map PairM.cells)) (h2 : Rd w tv 7 (r.types.map TypeM.cells)) (h3 : Rd w iv 7 (r.items.map ItemM.cells)) :
    FnV Tryz.prog 68 [.agg (r.cells pv tv iv).toArray] w (.bool (boundsOkM r)) := by
  have hle := h.le_map
  have hle2 := h2.le_map
  have hle3 := h3.le_map
  have hln : (r.pairs.map PairM.cells).length = r.pairs.length := by simp
  have hln2 : (r.types.map TypeM.cells).length = r.types.length := by simp
  have hln3 : (r.items.map ItemM.cells).length = r.items.length := by simp
  refine FnV.of (n := 111) Tryz.func68 rfl rfl ?_
  refine G.seq ?_
  refine G.region ?_
  refine G.op (og_box rfl rfl) rfl (fun bk1 _ => ?_)
  refine G.v (rv_assign rfl) rfl ?_
  refine G.done ?_
  refine G.thenN ?_
  refine G.seq ?_
  refine G.seq ?_
  refine G.region ?_
  (first | refine G.v (rv_field rfl) rfl ?_ | refine G.v (rv_fieldE rfl) rfl ?_)
  (first | refine G.v (rv_load1 0 rfl rfl rfl) rfl ?_ | refine G.v (rv_load1 1 rfl rfl rfl) rfl ?_)
  refine G.op (og_callV rfl rfl (fun w _ => l1In_any _ _ _ w)) rfl (fun _ _ => ?_)
  refine G.v (rv_not rfl) rfl ?_
  refine G.v (rv_move rfl) rfl ?_
  all_goals (((with_reducible refine G.gP rfl rfl (fun hg => ?_) (fun hg => ?_)) <;> (try exact Bool.noConfusion hg) <;> (first | (refine G.gY rfl rfl ?_; (first | refine G.v (rv_field rfl) rfl ?_ | refine G.v (rv_fieldE rfl) rfl ?_)) | refine G.gN rfl rfl rfl ?_ | refine G.gU rfl rfl rfl ?_)))
  all_goals ((first | (refine G.gY rfl rfl ?_; (first | refine G.v (rv_loadW 0 rfl rfl rfl) rfl ?_ | refine G.v (rv_loadW 1 rfl rfl rfl) rfl ?_ | refine G.v (rv_loadP 0 rfl rfl (.skip (.one (.one (.one (.one .nil)))))) rfl ?_ | refine G.v (rv_loadP 1 rfl rfl (.skip (.one (.one (.one (.one .nil)))))) rfl ?_)) | refine G.gN rfl rfl rfl ?_ | refine G.gU rfl rfl rfl ?_))
  all_goals ((first | (refine G.gY rfl rfl ?_; refine G.op (og_callV rfl rfl (fun w hh => spalletOk_any r.pal w)) rfl (fun _ _ => ?_)) | refine G.gN rfl rfl rfl ?_ | refine G.gU rfl rfl rfl ?_))
  all_goals ((first | (refine G.gY rfl rfl ?_; refine G.v (rv_not rfl) rfl ?_) | refine G.gN rfl rfl rfl ?_ | refine G.gU rfl rfl rfl ?_))
  all_goals ((first | refine G.v (rv_pickT rfl rfl) rfl ?_ | refine G.v (rv_pickF rfl rfl) rfl ?_))
  all_goals (refine G.v (rv_move rfl) rfl ?_)
  all_goals (((with_reducible refine G.gP rfl rfl (fun hg => ?_) (fun hg => ?_)) <;> (try exact Bool.noConfusion hg) <;> (first | (refine G.gY rfl rfl ?_; (first | refine G.v (rv_field rfl) rfl ?_ | refine G.v (rv_fieldE rfl) rfl ?_)) | refine G.gN rfl rfl rfl ?_ | refine G.gU rfl rfl rfl ?_)))
  all_goals ((first | (refine G.gY rfl rfl ?_; (first | refine G.v (rv_load1 0 rfl rfl rfl) rfl ?_ | refine G.v (rv_load1 1 rfl rfl rfl) rfl ?_)) | refine G.gN rfl rfl rfl ?_ | refine G.gU rfl rfl rfl ?_))
  all_goals ((first | (refine G.gY rfl rfl ?_; refine G.op (og_callV rfl rfl (fun w _ => l1In_any _ _ _ w)) rfl (fun _ _ => ?_)) | refine G.gN rfl rfl rfl ?_ | refine G.gU rfl rfl rfl ?_))
  all_goals ((first | (refine G.gY rfl rfl ?_; refine G.v (rv_not rfl) rfl ?_) | refine G.gN rfl rfl rfl ?_ | refine G.gU rfl rfl rfl ?_))
  all_goals ((first | refine G.v (rv_pickT rfl rfl) rfl ?_ | refine G.v (rv_pickF rfl rfl) rfl ?_))
  all_goals (refine G.v (rv_move rfl) rfl ?_)
  all_goals (((with_reducible refine G.gP rfl rfl (fun hg => ?_) (fun hg => ?_)) <;> (try exact Bool.noConfusion hg) <;> (first | (refine G.gY rfl rfl ?_; (first | refine G.v (rv_field rfl) rfl ?_ | refine G.v (rv_fieldE rfl) rfl ?_)) | refine G.gN rfl rfl rfl ?_ | refine G.gU rfl rfl rfl ?_)))
  all_goals ((first | (refine G.gY rfl rfl ?_; (first | refine G.v (rv_load1 0 rfl rfl rfl) rfl ?_ | refine G.v (rv_load1 1 rfl rfl rfl) rfl ?_)) | refine G.gN rfl rfl rfl ?_ | refine G.gU rfl rfl rfl ?_))
  all_goals ((first | (refine G.gY rfl rfl ?_; refine G.v (rv_len rfl (by first | exact Rd.stays (by assumption) | exact Rd.owned 0 rfl | exact Rd.owned 1 rfl)) rfl ?_) | refine G.gN rfl rfl rfl ?_ | refine G.gU rfl rfl rfl ?_))
  all_goals ((first | (refine G.gY rfl rfl ?_; refine G.v (rv_gtr rfl rfl) rfl ?_) | refine G.gN rfl rfl rfl ?_ | refine G.gU rfl rfl rfl ?_))
  all_goals ((first | refine G.v (rv_pickT rfl rfl) rfl ?_ | refine G.v (rv_pickF rfl rfl) rfl ?_))
  all_goals (refine G.v (rv_move rfl) rfl ?_)
  all_goals (((with_reducible refine G.gP rfl rfl (fun hg => ?_) (fun hg => ?_)) <;> (try exact Bool.noConfusion hg) <;> (first | (refine G.gY rfl rfl ?_; (first | refine G.v (rv_field rfl) rfl ?_ | refine G.v (rv_fieldE rfl) rfl ?_)) | refine G.gN rfl rfl rfl ?_ | refine G.gU rfl rfl rfl ?_)))
  all_goals ((first | (refine G.gY rfl rfl ?_; (first | refine G.v (rv_load1 0 rfl rfl rfl) rfl ?_ | refine G.v (rv_load1 1 rfl rfl rfl) rfl ?_)) | refine G.gN rfl rfl rfl ?_ | refine G.gU rfl rfl rfl ?_))
  all_goals ((first | (refine G.gY rfl rfl ?_; refine G.v (rv_len rfl (by first | exact Rd.stays (by assumption) | exact Rd.owned 0 rfl | exact Rd.owned 1 rfl)) rfl ?_) | refine G.gN rfl rfl rfl ?_ | refine G.gU rfl rfl rfl ?_))
  all_goals ((first | (refine G.gY rfl rfl ?_; refine G.op (og_callV rfl rfl (fun w _ => l1In_any _ _ _ w)) rfl (fun _ _ => ?_)) | refine G.gN rfl rfl rfl ?_ | refine G.gU rfl rfl rfl ?_))
  all_goals ((first | (refine G.gY rfl rfl ?_; refine G.v (rv_not rfl) rfl ?_) | refine G.gN rfl rfl rfl ?_ | refine G.gU rfl rfl rfl ?_))
  all_goals ((first | refine G.v (rv_pickT rfl rfl) rfl ?_ | refine G.v (rv_pickF rfl rfl) rfl ?_))
  all_goals (refine G.v (rv_move rfl) rfl ?_)
  all_goals (((with_reducible refine G.gP rfl rfl (fun hg => ?_) (fun hg => ?_)) <;> (try exact Bool.noConfusion hg) <;> (first | (refine G.gY rfl rfl ?_; (first | refine G.v (rv_field rfl) rfl ?_ | refine G.v (rv_fieldE rfl) rfl ?_)) | refine G.gN rfl rfl rfl ?_ | refine G.gU rfl rfl rfl ?_)))
  all_goals ((first | (refine G.gY rfl rfl ?_; (first | refine G.v (rv_load1 0 rfl rfl rfl) rfl ?_ | refine G.v (rv_load1 1 rfl rfl rfl) rfl ?_)) | refine G.gN rfl rfl rfl ?_ | refine G.gU rfl rfl rfl ?_))
  all_goals ((first | (refine G.gY rfl rfl ?_; refine G.op (og_callV rfl rfl (fun w _ => l2Id_any _ w)) rfl (fun _ _ => ?_)) | refine G.gN rfl rfl rfl ?_ | refine G.gU rfl rfl rfl ?_))
  all_goals ((first | (refine G.gY rfl rfl ?_; refine G.v (rv_not rfl) rfl ?_) | refine G.gN rfl rfl rfl ?_ | refine G.gU rfl rfl rfl ?_))
  all_goals ((first | refine G.v (rv_pickT rfl rfl) rfl ?_ | refine G.v (rv_pickF rfl rfl) rfl ?_))
  all_goals (refine G.v (rv_move rfl) rfl ?_)
  all_goals (((with_reducible refine G.gP rfl rfl (fun hg => ?_) (fun hg => ?_)) <;> (try exact Bool.noConfusion hg) <;> (first | (refine G.gY rfl rfl ?_; (first | refine G.v (rv_field rfl) rfl ?_ | refine G.v (rv_fieldE rfl) rfl ?_)) | refine G.gN rfl rfl rfl ?_ | refine G.gU rfl rfl rfl ?_)))
  all_goals ((first | (refine G.gY rfl rfl ?_; (first | refine G.v (rv_load1 0 rfl rfl rfl) rfl ?_ | refine G.v (rv_load1 1 rfl rfl rfl) rfl ?_)) | refine G.gN rfl rfl rfl ?_ | refine G.gU rfl rfl rfl ?_))
  all_goals ((first | (refine G.gY rfl rfl ?_; refine G.v (rv_len rfl (by first | exact Rd.stays (by assumption) | exact Rd.owned 0 rfl | exact Rd.owned 1 rfl)) rfl ?_) | refine G.gN rfl rfl rfl ?_ | refine G.gU rfl rfl rfl ?_))
  all_goals ((first | (refine G.gY rfl rfl ?_; refine G.v (rv_gtr rfl rfl) rfl ?_) | refine G.gN rfl rfl rfl ?_ | refine G.gU rfl rfl rfl ?_))
  all_goals ((first | refine G.v (rv_pickT rfl rfl) rfl ?_ | refine G.v (rv_pickF rfl rfl) rfl ?_))
  all_goals
   refine G.done ?_
   refine G.thenN ?_
   refine G.cond rfl (fun hc => ?_) (fun hc => ?_)
   · try exact Bool.noConfusion hc
     all_goals
      try replace hc := of_decide_eq_true hc
      try simp only [List.length_map] at hc
      try (exfalso; first | contradiction | omega)
      all_goals
       refine G.seq ?_
       refine G.region ?_
       refine G.v (rv_assign rfl) rfl ?_
       refine G.done ?_
       refine G.thenN ?_
       refine G.ret ?_
       refine G.thenR ?_
       first | (have hal := all_end ht2 hlt2; refine G.retFV rfl rfl (congrArg Value.bool ?_); rw [take_all hlt2]; simp only [Bool.not_eq_true', Bool.not_eq_false', List.length_map] at *; clear h h2 h3; have hd1 : (r.pairs.length : Int) ≤ 16 := (by simp only [decide_eq_false_iff_not] at *; omega); have hd2 : (r.items.length : Int) ≤ 8 := (by omega); simp only [boundsOkM, decide_eq_true hd1, decide_eq_true hd2, *, decide_true, Bool.and_true, Bool.true_and]; done) | (have hno := all_no (f := itemOkM) hb2 (by simpa using hc); refine G.retFV rfl rfl (congrArg Value.bool ?_); rw [boundsOkM, hno]; simp; done) | (have hno := all_no (f := typeOkM) hb1 (by simpa using hc); refine G.retFV rfl rfl (congrArg Value.bool ?_); rw [boundsOkM, hno]; simp; done) | (have hno := all_no (f := pairOkM) hb (by (simp_all [pairOkM]; done)); refine G.retFV rfl rfl (congrArg Value.bool ?_); rw [boundsOkM, hno]; simp; done) | (have hcc : ¬ (r.pairs.length : Int) ≤ 16 := (by simp only [decide_eq_true_eq] at *; omega); refine G.retFV rfl rfl (congrArg Value.bool ?_); simp only [boundsOkM]; rw [decide_eq_false hcc]; simp; done) | (have hcc : ¬ (r.items.length : Int) ≤ 8 := (by omega); refine G.retFV rfl rfl (congrArg Value.bool ?_); simp only [boundsOkM]; rw [decide_eq_false hcc]; simp; done) | (refine G.retFV rfl rfl (congrArg Value.bool ?_); simp only [Bool.not_eq_true', Bool.not_eq_false', List.length_map] at *; clear h h2 h3; simp only [boundsOkM, *, Bool.and_false, Bool.false_and]; done)
   · try exact Bool.noConfusion hc
     all_goals
      try replace hc := of_decide_eq_false hc
      try simp only [List.length_map] at hc
      try (exfalso; first | contradiction | omega)
      all_goals
       refine G.skip ?_
       refine G.thenN ?_
       refine G.seq ?_
       refine G.seq ?_
       refine G.region ?_
       refine G.v (rv_assign rfl) rfl ?_
       refine G.done ?_
       refine G.thenN ?_
       refine G.block ?_
       -- loop 0: turned [3], kept [1]
       have hi8 : r.items.length ≤ 8 := by omega
       refine G.loopK (ι := Nat) (ks := [1]) (fun k => [(3, .int .i64 k)]) (fun _ => []) (fun k => k ≤ r.pairs.length ∧ (r.pairs.take k).all pairOkM = true) (fun k => r.pairs.length - k) 0 (.cons rfl (.nil)) rfl ?_ ?_ ?_
       · exact ⟨Nat.zero_le _, rfl⟩
       · exact ⟨rfl, trivial⟩
       rintro k ⟨hk, ht⟩
       by_cases hlt : k < r.pairs.length
       case' pos => (obtain ⟨b, hb⟩ := get_of_lt hlt; have he := get_map hb PairM.cells)
       case' neg => (have hall := all_end ht hlt)
       all_goals
        refine G.seq ?_
        refine G.seq ?_
        refine G.region ?_
        refine G.v (rv_move rfl) rfl ?_
        (first | refine G.v (rv_field rfl) rfl ?_ | refine G.v (rv_fieldE rfl) rfl ?_)
        (first | refine G.v (rv_load1 0 rfl rfl rfl) rfl ?_ | refine G.v (rv_load1 1 rfl rfl rfl) rfl ?_)
        refine G.v (rv_len rfl (by first | exact Rd.stays (by assumption) | exact Rd.owned 0 rfl | exact Rd.owned 1 rfl)) rfl ?_
        refine G.v (rv_lss rfl rfl) rfl ?_
        refine G.done ?_
        refine G.thenN ?_
        refine G.cond rfl (fun hc => ?_) (fun hc => ?_)
        · try exact Bool.noConfusion hc
          all_goals
           try replace hc := of_decide_eq_true hc
           try simp only [List.length_map] at hc
           try (exfalso; first | contradiction | omega)
           all_goals
            refine G.skip ?_
            refine G.thenN ?_
            refine G.seq ?_
            refine G.block ?_
            refine G.seq ?_
            refine G.region ?_
            (first | refine G.v (rv_field rfl) rfl ?_ | refine G.v (rv_fieldE rfl) rfl ?_)
            (first | refine G.v (rv_load1 0 rfl rfl rfl) rfl ?_ | refine G.v (rv_load1 1 rfl rfl rfl) rfl ?_)
            refine G.v (rv_move rfl) rfl ?_
            (first | refine G.v (rv_indexH rfl rfl (by first | exact Rd.stays (by assumption) | exact Rd.owned 0 rfl | exact Rd.owned 1 rfl) rfl (by assumption)) rfl ?_ | refine G.v (rv_index rfl rfl (by first | exact Rd.stays (by assumption) | exact Rd.owned 0 rfl | exact Rd.owned 1 rfl) rfl (by assumption)) rfl ?_)
            (first | refine G.v (rv_field rfl) rfl ?_ | refine G.v (rv_fieldE rfl) rfl ?_)
            refine G.v (rv_loadE rfl (by first | exact Rd.stays (by assumption) | exact Rd.owned 0 rfl | exact Rd.owned 1 rfl) (by assumption) rfl) rfl ?_
            refine G.op (og_callV rfl rfl (fun w _ => l1In_any _ _ _ w)) rfl (fun _ _ => ?_)
            refine G.v (rv_not rfl) rfl ?_
            refine G.v (rv_move rfl) rfl ?_
            all_goals (((with_reducible refine G.gP rfl rfl (fun hg => ?_) (fun hg => ?_)) <;> (try exact Bool.noConfusion hg) <;> (first | (refine G.gY rfl rfl ?_; (first | refine G.v (rv_field rfl) rfl ?_ | refine G.v (rv_fieldE rfl) rfl ?_)) | refine G.gN rfl rfl rfl ?_ | refine G.gU rfl rfl rfl ?_)))
            all_goals ((first | (refine G.gY rfl rfl ?_; (first | refine G.v (rv_load1 0 rfl rfl rfl) rfl ?_ | refine G.v (rv_load1 1 rfl rfl rfl) rfl ?_)) | refine G.gN rfl rfl rfl ?_ | refine G.gU rfl rfl rfl ?_))
            all_goals ((first | (refine G.gY rfl rfl ?_; refine G.v (rv_move rfl) rfl ?_) | refine G.gN rfl rfl rfl ?_ | refine G.gU rfl rfl rfl ?_))
            all_goals ((first | (refine G.gY rfl rfl ?_; (first | refine G.v (rv_indexH rfl rfl (by first | exact Rd.stays (by assumption) | exact Rd.owned 0 rfl | exact Rd.owned 1 rfl) rfl (by assumption)) rfl ?_ | refine G.v (rv_index rfl rfl (by first | exact Rd.stays (by assumption) | exact Rd.owned 0 rfl | exact Rd.owned 1 rfl) rfl (by assumption)) rfl ?_)) | refine G.gN rfl rfl rfl ?_ | refine G.gU rfl rfl rfl ?_))
            all_goals ((first | (refine G.gY rfl rfl ?_; (first | refine G.v (rv_field rfl) rfl ?_ | refine G.v (rv_fieldE rfl) rfl ?_)) | refine G.gN rfl rfl rfl ?_ | refine G.gU rfl rfl rfl ?_))
            all_goals ((first | (refine G.gY rfl rfl ?_; refine G.v (rv_loadE rfl (by first | exact Rd.stays (by assumption) | exact Rd.owned 0 rfl | exact Rd.owned 1 rfl) (by assumption) rfl) rfl ?_) | refine G.gN rfl rfl rfl ?_ | refine G.gU rfl rfl rfl ?_))
            all_goals ((first | (refine G.gY rfl rfl ?_; refine G.op (og_callV rfl rfl (fun w _ => l1In_any _ _ _ w)) rfl (fun _ _ => ?_)) | refine G.gN rfl rfl rfl ?_ | refine G.gU rfl rfl rfl ?_))
            all_goals ((first | (refine G.gY rfl rfl ?_; refine G.v (rv_not rfl) rfl ?_) | refine G.gN rfl rfl rfl ?_ | refine G.gU rfl rfl rfl ?_))
            all_goals ((first | refine G.v (rv_pickT rfl rfl) rfl ?_ | refine G.v (rv_pickF rfl rfl) rfl ?_))
            all_goals
             refine G.done ?_
             refine G.thenN ?_
             refine G.cond rfl (fun hc => ?_) (fun hc => ?_)
             · try exact Bool.noConfusion hc
               all_goals
                try replace hc := of_decide_eq_true hc
                try simp only [List.length_map] at hc
                try (exfalso; first | contradiction | omega)
                all_goals
                 refine G.seq ?_
                 refine G.region ?_
                 refine G.v (rv_assign rfl) rfl ?_
                 refine G.done ?_
                 refine G.thenN ?_
                 refine G.ret ?_
                 refine G.inR ?_
                 refine G.thenR ?_
                 refine G.thenR ?_
                 refine G.inR ?_
                 refine G.thenR ?_
                 first | (have hal := all_end ht2 hlt2; refine G.retFV rfl rfl (congrArg Value.bool ?_); rw [take_all hlt2]; simp only [Bool.not_eq_true', Bool.not_eq_false', List.length_map] at *; clear h h2 h3; have hd1 : (r.pairs.length : Int) ≤ 16 := (by simp only [decide_eq_false_iff_not] at *; omega); have hd2 : (r.items.length : Int) ≤ 8 := (by omega); simp only [boundsOkM, decide_eq_true hd1, decide_eq_true hd2, *, decide_true, Bool.and_true, Bool.true_and]; done) | (have hno := all_no (f := itemOkM) hb2 (by simpa using hc); refine G.retFV rfl rfl (congrArg Value.bool ?_); rw [boundsOkM, hno]; simp; done) | (have hno := all_no (f := typeOkM) hb1 (by simpa using hc); refine G.retFV rfl rfl (congrArg Value.bool ?_); rw [boundsOkM, hno]; simp; done) | (have hno := all_no (f := pairOkM) hb (by (simp_all [pairOkM]; done)); refine G.retFV rfl rfl (congrArg Value.bool ?_); rw [boundsOkM, hno]; simp; done) | (have hcc : ¬ (r.pairs.length : Int) ≤ 16 := (by simp only [decide_eq_true_eq] at *; omega); refine G.retFV rfl rfl (congrArg Value.bool ?_); simp only [boundsOkM]; rw [decide_eq_false hcc]; simp; done) | (have hcc : ¬ (r.items.length : Int) ≤ 8 := (by omega); refine G.retFV rfl rfl (congrArg Value.bool ?_); simp only [boundsOkM]; rw [decide_eq_false hcc]; simp; done) | (refine G.retFV rfl rfl (congrArg Value.bool ?_); simp only [Bool.not_eq_true', Bool.not_eq_false', List.length_map] at *; clear h h2 h3; simp only [boundsOkM, *, Bool.and_false, Bool.false_and]; done)
             · try exact Bool.noConfusion hc
               all_goals
                try replace hc := of_decide_eq_false hc
                try simp only [List.length_map] at hc
                try (exfalso; first | contradiction | omega)
                all_goals
                 refine G.skip ?_
                 refine G.inN ?_
                 refine G.thenN ?_
                 refine G.region ?_
                 refine G.v (rv_move rfl) rfl ?_
                 (first | refine G.v (rv_incr rfl rfl (by omega)) rfl ?_ | refine G.v (rv_addB rfl rfl (by omega) (by omega)) rfl ?_)
                 refine G.v (rv_assign rfl) rfl ?_
                 refine G.done ?_
                 first | refine G.backK (k + 1) 0 rfl (.cons rfl (.nil)) ?_ ?_ ?_ | refine G.backK (k + 1) 1 rfl (.cons rfl (.nil)) ?_ ?_ ?_ | refine G.backK (k + 1) 2 rfl (.cons rfl (.nil)) ?_ ?_ ?_
                 · exact ⟨rfl, trivial⟩
                 · exact ⟨hlt, all_next ht hb (by simp_all [pairOkM])⟩
                 · omega
        · try exact Bool.noConfusion hc
          all_goals
           try replace hc := of_decide_eq_false hc
           try simp only [List.length_map] at hc
           try (exfalso; first | contradiction | omega)
           all_goals
            refine G.exit ?_
            refine G.thenX ?_
            refine G.thenX ?_
            refine G.inX ?_
            refine G.thenN ?_
            refine G.seq ?_
            refine G.seq ?_
            refine G.region ?_
            refine G.v (rv_assign rfl) rfl ?_
            refine G.done ?_
            refine G.thenN ?_
            refine G.block ?_
            -- loop 1: turned [4], kept [1]
            refine G.loopK (ι := Nat) (ks := [1]) (fun k => [(4, .int .i64 k)]) (fun _ => []) (fun k => k ≤ r.types.length ∧ (r.types.take k).all typeOkM = true) (fun k => r.types.length - k) 0 (.cons rfl (.nil)) rfl ?_ ?_ ?_
            · exact ⟨Nat.zero_le _, rfl⟩
            · exact ⟨rfl, trivial⟩
            rintro k1 ⟨hk1, ht1⟩
            by_cases hlt1 : k1 < r.types.length
            case' pos => (obtain ⟨b1, hb1⟩ := get_of_lt hlt1; have he := get_map hb1 TypeM.cells)
            case' neg => (have hall1 := all_end ht1 hlt1)
            all_goals
             refine G.seq ?_
             refine G.seq ?_
             refine G.region ?_
             refine G.v (rv_move rfl) rfl ?_
             (first | refine G.v (rv_field rfl) rfl ?_ | refine G.v (rv_fieldE rfl) rfl ?_)
             (first | refine G.v (rv_load1 0 rfl rfl rfl) rfl ?_ | refine G.v (rv_load1 1 rfl rfl rfl) rfl ?_)
             refine G.v (rv_len rfl (by first | exact Rd.stays (by assumption) | exact Rd.owned 0 rfl | exact Rd.owned 1 rfl)) rfl ?_
             refine G.v (rv_lss rfl rfl) rfl ?_
             refine G.done ?_
             refine G.thenN ?_
             refine G.cond rfl (fun hc => ?_) (fun hc => ?_)
             · try exact Bool.noConfusion hc
               all_goals
                try replace hc := of_decide_eq_true hc
                try simp only [List.length_map] at hc
                try (exfalso; first | contradiction | omega)
                all_goals
                 refine G.skip ?_
                 refine G.thenN ?_
                 refine G.seq ?_
                 refine G.block ?_
                 refine G.seq ?_
                 refine G.region ?_
                 (first | refine G.v (rv_field rfl) rfl ?_ | refine G.v (rv_fieldE rfl) rfl ?_)
                 (first | refine G.v (rv_load1 0 rfl rfl rfl) rfl ?_ | refine G.v (rv_load1 1 rfl rfl rfl) rfl ?_)
                 refine G.v (rv_move rfl) rfl ?_
                 (first | refine G.v (rv_indexH rfl rfl (by first | exact Rd.stays (by assumption) | exact Rd.owned 0 rfl | exact Rd.owned 1 rfl) rfl (by assumption)) rfl ?_ | refine G.v (rv_index rfl rfl (by first | exact Rd.stays (by assumption) | exact Rd.owned 0 rfl | exact Rd.owned 1 rfl) rfl (by assumption)) rfl ?_)
                 (first | refine G.v (rv_loadEW rfl (by first | exact Rd.stays (by assumption) | exact Rd.owned 0 rfl | exact Rd.owned 1 rfl) (by assumption) rfl) rfl ?_ | refine G.v (rv_loadEP rfl (by first | exact Rd.stays (by assumption) | exact Rd.owned 0 rfl | exact Rd.owned 1 rfl) (by assumption) (.one (.one (.one (.one (.one (.one (.one .nil)))))))) rfl ?_)
                 refine G.op (og_callV rfl rfl (fun w hh => stypeOk_any b1 w)) rfl (fun _ _ => ?_)
                 refine G.v (rv_not rfl) rfl ?_
                 refine G.done ?_
                 refine G.thenN ?_
                 refine G.cond rfl (fun hc => ?_) (fun hc => ?_)
                 · try exact Bool.noConfusion hc
                   all_goals
                    try replace hc := of_decide_eq_true hc
                    try simp only [List.length_map] at hc
                    try (exfalso; first | contradiction | omega)
                    all_goals
                     refine G.seq ?_
                     refine G.region ?_
                     refine G.v (rv_assign rfl) rfl ?_
                     refine G.done ?_
                     refine G.thenN ?_
                     refine G.ret ?_
                     refine G.inR ?_
                     refine G.thenR ?_
                     refine G.thenR ?_
                     refine G.inR ?_
                     refine G.thenR ?_
                     first | (have hal := all_end ht2 hlt2; refine G.retFV rfl rfl (congrArg Value.bool ?_); rw [take_all hlt2]; simp only [Bool.not_eq_true', Bool.not_eq_false', List.length_map] at *; clear h h2 h3; have hd1 : (r.pairs.length : Int) ≤ 16 := (by simp only [decide_eq_false_iff_not] at *; omega); have hd2 : (r.items.length : Int) ≤ 8 := (by omega); simp only [boundsOkM, decide_eq_true hd1, decide_eq_true hd2, *, decide_true, Bool.and_true, Bool.true_and]; done) | (have hno := all_no (f := itemOkM) hb2 (by simpa using hc); refine G.retFV rfl rfl (congrArg Value.bool ?_); rw [boundsOkM, hno]; simp; done) | (have hno := all_no (f := typeOkM) hb1 (by simpa using hc); refine G.retFV rfl rfl (congrArg Value.bool ?_); rw [boundsOkM, hno]; simp; done) | (have hno := all_no (f := pairOkM) hb (by (simp_all [pairOkM]; done)); refine G.retFV rfl rfl (congrArg Value.bool ?_); rw [boundsOkM, hno]; simp; done) | (have hcc : ¬ (r.pairs.length : Int) ≤ 16 := (by simp only [decide_eq_true_eq] at *; omega); refine G.retFV rfl rfl (congrArg Value.bool ?_); simp only [boundsOkM]; rw [decide_eq_false hcc]; simp; done) | (have hcc : ¬ (r.items.length : Int) ≤ 8 := (by omega); refine G.retFV rfl rfl (congrArg Value.bool ?_); simp only [boundsOkM]; rw [decide_eq_false hcc]; simp; done) | (refine G.retFV rfl rfl (congrArg Value.bool ?_); simp only [Bool.not_eq_true', Bool.not_eq_false', List.length_map] at *; clear h h2 h3; simp only [boundsOkM, *, Bool.and_false, Bool.false_and]; done)
                 · try exact Bool.noConfusion hc
                   all_goals
                    try replace hc := of_decide_eq_false hc
                    try simp only [List.length_map] at hc
                    try (exfalso; first | contradiction | omega)
                    all_goals
                     refine G.skip ?_
                     refine G.inN ?_
                     refine G.thenN ?_
                     refine G.region ?_
                     refine G.v (rv_move rfl) rfl ?_
                     (first | refine G.v (rv_incr rfl rfl (by omega)) rfl ?_ | refine G.v (rv_addB rfl rfl (by omega) (by omega)) rfl ?_)
                     refine G.v (rv_assign rfl) rfl ?_
                     refine G.done ?_
                     first | refine G.backK (k1 + 1) 0 rfl (.cons rfl (.nil)) ?_ ?_ ?_ | refine G.backK (k1 + 1) 1 rfl (.cons rfl (.nil)) ?_ ?_ ?_ | refine G.backK (k1 + 1) 2 rfl (.cons rfl (.nil)) ?_ ?_ ?_
                     · exact ⟨rfl, trivial⟩
                     · exact ⟨hlt1, all_next ht1 hb1 (by simpa using hc)⟩
                     · omega
             · try exact Bool.noConfusion hc
               all_goals
                try replace hc := of_decide_eq_false hc
                try simp only [List.length_map] at hc
                try (exfalso; first | contradiction | omega)
                all_goals
                 refine G.exit ?_
                 refine G.thenX ?_
                 refine G.thenX ?_
                 refine G.inX ?_
                 refine G.thenN ?_
                 refine G.seq ?_
                 refine G.region ?_
                 refine G.v (rv_assign rfl) rfl ?_
                 refine G.done ?_
                 refine G.thenN ?_
                 refine G.seq ?_
                 refine G.seq ?_
                 refine G.region ?_
                 refine G.v (rv_assign rfl) rfl ?_
                 refine G.done ?_
                 refine G.thenN ?_
                 refine G.block ?_
                 -- loop 2: turned [5, 6], kept [1]
                 refine G.loopK (ι := Nat) (ks := [1]) (fun k => [(5, .int .i64 (cntSum (r.items.take k))), (6, .int .i64 k)]) (fun _ => []) (fun k => k ≤ r.items.length ∧ (r.items.take k).all itemOkM = true) (fun k => r.items.length - k) 0 (.cons rfl (.nil)) rfl ?_ ?_ ?_
                 · exact ⟨Nat.zero_le _, rfl⟩
                 · exact ⟨rfl, rfl, trivial⟩
                 rintro k2 ⟨hk2, ht2⟩
                 have hcn := cnt_in ht2
                 rw [List.length_take, Nat.min_eq_left hk2] at hcn
                 by_cases hlt2 : k2 < r.items.length
                 case' pos => (obtain ⟨b2, hb2⟩ := get_of_lt hlt2; have he := get_map hb2 ItemM.cells; have hct := cnt_take hb2)
                 all_goals
                  refine G.seq ?_
                  refine G.seq ?_
                  refine G.region ?_
                  refine G.v (rv_move rfl) rfl ?_
                  (first | refine G.v (rv_field rfl) rfl ?_ | refine G.v (rv_fieldE rfl) rfl ?_)
                  (first | refine G.v (rv_load1 0 rfl rfl rfl) rfl ?_ | refine G.v (rv_load1 1 rfl rfl rfl) rfl ?_)
                  refine G.v (rv_len rfl (by first | exact Rd.stays (by assumption) | exact Rd.owned 0 rfl | exact Rd.owned 1 rfl)) rfl ?_
                  refine G.v (rv_lss rfl rfl) rfl ?_
                  refine G.done ?_
                  refine G.thenN ?_
                  refine G.cond rfl (fun hc => ?_) (fun hc => ?_)
                  · try exact Bool.noConfusion hc
                    all_goals
                     try replace hc := of_decide_eq_true hc
                     try simp only [List.length_map] at hc
                     try (exfalso; first | contradiction | omega)
                     all_goals
                      refine G.skip ?_
                      refine G.thenN ?_
                      refine G.seq ?_
                      refine G.block ?_
                      refine G.seq ?_
                      refine G.seq ?_
                      refine G.region ?_
                      (first | refine G.v (rv_field rfl) rfl ?_ | refine G.v (rv_fieldE rfl) rfl ?_)
                      (first | refine G.v (rv_load1 0 rfl rfl rfl) rfl ?_ | refine G.v (rv_load1 1 rfl rfl rfl) rfl ?_)
                      refine G.v (rv_move rfl) rfl ?_
                      (first | refine G.v (rv_indexH rfl rfl (by first | exact Rd.stays (by assumption) | exact Rd.owned 0 rfl | exact Rd.owned 1 rfl) rfl (by assumption)) rfl ?_ | refine G.v (rv_index rfl rfl (by first | exact Rd.stays (by assumption) | exact Rd.owned 0 rfl | exact Rd.owned 1 rfl) rfl (by assumption)) rfl ?_)
                      (first | refine G.v (rv_loadEW rfl (by first | exact Rd.stays (by assumption) | exact Rd.owned 0 rfl | exact Rd.owned 1 rfl) (by assumption) rfl) rfl ?_ | refine G.v (rv_loadEP rfl (by first | exact Rd.stays (by assumption) | exact Rd.owned 0 rfl | exact Rd.owned 1 rfl) (by assumption) (.one (.one (.one (.one (.one (.one (.one .nil)))))))) rfl ?_)
                      refine G.op (og_callV rfl rfl (fun w hh => sitemOk_any b2 w)) rfl (fun _ _ => ?_)
                      refine G.v (rv_not rfl) rfl ?_
                      refine G.done ?_
                      refine G.thenN ?_
                      refine G.cond rfl (fun hc => ?_) (fun hc => ?_)
                      · try exact Bool.noConfusion hc
                        all_goals
                         try replace hc := of_decide_eq_true hc
                         try simp only [List.length_map] at hc
                         try (exfalso; first | contradiction | omega)
                         all_goals
                          refine G.seq ?_
                          refine G.region ?_
                          refine G.v (rv_assign rfl) rfl ?_
                          refine G.done ?_
                          refine G.thenN ?_
                          refine G.ret ?_
                          refine G.thenR ?_
                          refine G.inR ?_
                          refine G.thenR ?_
                          refine G.thenR ?_
                          refine G.inR ?_
                          refine G.thenR ?_
                          first | (have hal := all_end ht2 hlt2; refine G.retFV rfl rfl (congrArg Value.bool ?_); rw [take_all hlt2]; simp only [Bool.not_eq_true', Bool.not_eq_false', List.length_map] at *; clear h h2 h3; have hd1 : (r.pairs.length : Int) ≤ 16 := (by simp only [decide_eq_false_iff_not] at *; omega); have hd2 : (r.items.length : Int) ≤ 8 := (by omega); simp only [boundsOkM, decide_eq_true hd1, decide_eq_true hd2, *, decide_true, Bool.and_true, Bool.true_and]; done) | (have hno := all_no (f := itemOkM) hb2 (by simpa using hc); refine G.retFV rfl rfl (congrArg Value.bool ?_); rw [boundsOkM, hno]; simp; done) | (have hno := all_no (f := typeOkM) hb1 (by simpa using hc); refine G.retFV rfl rfl (congrArg Value.bool ?_); rw [boundsOkM, hno]; simp; done) | (have hno := all_no (f := pairOkM) hb (by (simp_all [pairOkM]; done)); refine G.retFV rfl rfl (congrArg Value.bool ?_); rw [boundsOkM, hno]; simp; done) | (have hcc : ¬ (r.pairs.length : Int) ≤ 16 := (by simp only [decide_eq_true_eq] at *; omega); refine G.retFV rfl rfl (congrArg Value.bool ?_); simp only [boundsOkM]; rw [decide_eq_false hcc]; simp; done) | (have hcc : ¬ (r.items.length : Int) ≤ 8 := (by omega); refine G.retFV rfl rfl (congrArg Value.bool ?_); simp only [boundsOkM]; rw [decide_eq_false hcc]; simp; done) | (refine G.retFV rfl rfl (congrArg Value.bool ?_); simp only [Bool.not_eq_true', Bool.not_eq_false', List.length_map] at *; clear h h2 h3; simp only [boundsOkM, *, Bool.and_false, Bool.false_and]; done)
                      · try exact Bool.noConfusion hc
                        all_goals
                         try replace hc := of_decide_eq_false hc
                         try simp only [List.length_map] at hc
                         try (exfalso; first | contradiction | omega)
                         all_goals
                          have hcb := item_cnt (b := b2) (by simpa using hc)
                          all_goals
                           refine G.skip ?_
                           refine G.thenN ?_
                           refine G.region ?_
                           refine G.v (rv_move rfl) rfl ?_
                           (first | refine G.v (rv_field rfl) rfl ?_ | refine G.v (rv_fieldE rfl) rfl ?_)
                           (first | refine G.v (rv_load1 0 rfl rfl rfl) rfl ?_ | refine G.v (rv_load1 1 rfl rfl rfl) rfl ?_)
                           refine G.v (rv_move rfl) rfl ?_
                           (first | refine G.v (rv_indexH rfl rfl (by first | exact Rd.stays (by assumption) | exact Rd.owned 0 rfl | exact Rd.owned 1 rfl) rfl (by assumption)) rfl ?_ | refine G.v (rv_index rfl rfl (by first | exact Rd.stays (by assumption) | exact Rd.owned 0 rfl | exact Rd.owned 1 rfl) rfl (by assumption)) rfl ?_)
                           (first | refine G.v (rv_field rfl) rfl ?_ | refine G.v (rv_fieldE rfl) rfl ?_)
                           refine G.v (rv_loadE rfl (by first | exact Rd.stays (by assumption) | exact Rd.owned 0 rfl | exact Rd.owned 1 rfl) (by assumption) rfl) rfl ?_
                           (first | refine G.v (rv_incr rfl rfl (by omega)) rfl ?_ | refine G.v (rv_addB rfl rfl (by omega) (by omega)) rfl ?_)
                           refine G.v (rv_assign rfl) rfl ?_
                           refine G.done ?_
                           refine G.inN ?_
                           refine G.thenN ?_
                           refine G.region ?_
                           refine G.v (rv_move rfl) rfl ?_
                           (first | refine G.v (rv_incr rfl rfl (by omega)) rfl ?_ | refine G.v (rv_addB rfl rfl (by omega) (by omega)) rfl ?_)
                           refine G.v (rv_assign rfl) rfl ?_
                           refine G.done ?_
                           first | refine G.backK (k2 + 1) 0 rfl (.cons rfl (.nil)) ?_ ?_ ?_ | refine G.backK (k2 + 1) 1 rfl (.cons rfl (.nil)) ?_ ?_ ?_ | refine G.backK (k2 + 1) 2 rfl (.cons rfl (.nil)) ?_ ?_ ?_
                           · exact ⟨congrArg (fun z => some (Value.int .i64 z)) hct.symm, rfl, trivial⟩
                           · exact ⟨hlt2, all_next ht2 hb2 (by simpa using hc)⟩
                           · omega
                  · try exact Bool.noConfusion hc
                    all_goals
                     try replace hc := of_decide_eq_false hc
                     try simp only [List.length_map] at hc
                     try (exfalso; first | contradiction | omega)
                     all_goals
                      refine G.exit ?_
                      refine G.thenX ?_
                      refine G.thenX ?_
                      refine G.inX ?_
                      refine G.thenN ?_
                      refine G.seq ?_
                      refine G.region ?_
                      refine G.v (rv_move rfl) rfl ?_
                      refine G.v (rv_leq rfl rfl) rfl ?_
                      refine G.v (rv_assign rfl) rfl ?_
                      refine G.done ?_
                      refine G.thenN ?_
                      refine G.ret ?_
                      first | (have hal := all_end ht2 hlt2; refine G.retFV rfl rfl (congrArg Value.bool ?_); rw [take_all hlt2]; simp only [Bool.not_eq_true', Bool.not_eq_false', List.length_map] at *; clear h h2 h3; have hd1 : (r.pairs.length : Int) ≤ 16 := (by simp only [decide_eq_false_iff_not] at *; omega); have hd2 : (r.items.length : Int) ≤ 8 := (by omega); simp only [boundsOkM, decide_eq_true hd1, decide_eq_true hd2, *, decide_true, Bool.and_true, Bool.true_and]; done) | (have hno := all_no (f := itemOkM) hb2 (by simpa using hc); refine G.retFV rfl rfl (congrArg Value.bool ?_); rw [boundsOkM, hno]; simp; done) | (have hno := all_no (f := typeOkM) hb1 (by simpa using hc); refine G.retFV rfl rfl (congrArg Value.bool ?_); rw [boundsOkM, hno]; simp; done) | (have hno := all_no (f := pairOkM) hb (by (simp_all [pairOkM]; done)); refine G.retFV rfl rfl (congrArg Value.bool ?_); rw [boundsOkM, hno]; simp; done) | (have hcc : ¬ (r.pairs.length : Int) ≤ 16 := (by simp only [decide_eq_true_eq] at *; omega); refine G.retFV rfl rfl (congrArg Value.bool ?_); simp only [boundsOkM]; rw [decide_eq_false hcc]; simp; done) | (have hcc : ¬ (r.items.length : Int) ≤ 8 := (by omega); refine G.retFV rfl rfl (congrArg Value.bool ?_); simp only [boundsOkM]; rw [decide_eq_false hcc]; simp; done) | (refine G.retFV rfl rfl (congrArg Value.bool ?_); simp only [Bool.not_eq_true', Bool.not_eq_false', List.length_map] at *; clear h h2 h3; simp only [boundsOkM, *, Bool.and_false, Bool.false_and]; done)
end Go.Proofs.YtpmphkcibiimcaaGreat
